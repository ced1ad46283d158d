/- TopFirst: part 0 of its proof: Abs1, Abs2, Abs3, Abs4, Abs5, Abs6, Abs7, Abs8, Abs9, AbsA, AbsC. -/
import Derived.WalkKit
import Derived.Below
import Derived.Orders
import Derived.Laws.Append
import Derived.Laws.Cells
import Derived.Laws.Entries
import Derived.Laws.StructEq
import Derived.Lib.Strings
set_option linter.unusedSimpArgs false
set_option linter.unusedVariables false
section
/- The engine, part 1: a table keyed by numbers; when a value of the walk stands for a value of the program's memory; when a sketch of memory stands for a world. No program in sight. -/
namespace Go.Proofs.YtacknhbgfijkcaaGreatDoor.Abs
open Go Go.RowKit
structure N8 (α : Type) where
 a : α
 b : α
 c : α
 d : α
 e : α
 f : α
 g : α
 h : α
noncomputable def TD (α : Type) (k : Nat) : Type:=Nat.rec (motive:=fun _ => Type) (Option α) (fun _ T => N8 T) k
structure Ln (T A : Type) where
 get : T → A
 put : T → A → T
 mod : T → (A → (A → Bool) → Bool) → (T → Bool) → Bool
noncomputable def Ln.modK {A B : Type} (x : Ln A B) (t : A) (F : B → (B → Bool) → Bool) (K : A → Bool) : Bool:=Ln.rec (motive:=fun _ => A → (B → (B → Bool) → Bool) → (A → Bool) → Bool) (fun _ _ md => md) x t F K
theorem Ln.modK_eq {A B : Type} (x : Ln A B) (t : A) (F : B → (B → Bool) → Bool) (K : A → Bool) : x.modK t F K = x.mod t F K:=rfl
noncomputable def sel {B : Type} (b0 b1 b2 b3 b4 b5 b6 b7 : B) (d : Nat) : B :=
 Bool.rec (motive:=fun _ => B) (Bool.rec (motive:=fun _ => B) (Bool.rec (motive:=fun _ => B) b7 b6 (Nat.beq d 6)) (Bool.rec (motive:=fun _ => B) b5 b4 (Nat.beq d 4)) (Nat.ble d 5)) (Bool.rec (motive:=fun _ => B) (Bool.rec (motive:=fun _ => B) b3 b2 (Nat.beq d 2)) (Bool.rec (motive:=fun _ => B) b1 b0 (Nat.beq d 0)) (Nat.ble d 1)) (Nat.ble d 3)
noncomputable def lnc {B C : Type} (y : Ln B C) (d : Nat) : Ln (N8 B) C:=sel
 ⟨fun t => y.get t.a, fun t x => ⟨y.put t.a x, t.b, t.c, t.d, t.e, t.f, t.g, t.h⟩, fun t F K => N8.rec (motive:=fun _ => (C → (C → Bool) → Bool) → (N8 B → Bool) → Bool) (fun a b c d e f g h F K => Ln.rec (motive:=fun _ => B → (C → (C → Bool) → Bool) → (B → Bool) → Bool) (fun _ _ md => md) y a F (fun x => K ⟨x, b, c, d, e, f, g, h⟩)) t F K⟩
 ⟨fun t => y.get t.b, fun t x => ⟨t.a, y.put t.b x, t.c, t.d, t.e, t.f, t.g, t.h⟩, fun t F K => N8.rec (motive:=fun _ => (C → (C → Bool) → Bool) → (N8 B → Bool) → Bool) (fun a b c d e f g h F K => Ln.rec (motive:=fun _ => B → (C → (C → Bool) → Bool) → (B → Bool) → Bool) (fun _ _ md => md) y b F (fun x => K ⟨a, x, c, d, e, f, g, h⟩)) t F K⟩
 ⟨fun t => y.get t.c, fun t x => ⟨t.a, t.b, y.put t.c x, t.d, t.e, t.f, t.g, t.h⟩, fun t F K => N8.rec (motive:=fun _ => (C → (C → Bool) → Bool) → (N8 B → Bool) → Bool) (fun a b c d e f g h F K => Ln.rec (motive:=fun _ => B → (C → (C → Bool) → Bool) → (B → Bool) → Bool) (fun _ _ md => md) y c F (fun x => K ⟨a, b, x, d, e, f, g, h⟩)) t F K⟩
 ⟨fun t => y.get t.d, fun t x => ⟨t.a, t.b, t.c, y.put t.d x, t.e, t.f, t.g, t.h⟩, fun t F K => N8.rec (motive:=fun _ => (C → (C → Bool) → Bool) → (N8 B → Bool) → Bool) (fun a b c d e f g h F K => Ln.rec (motive:=fun _ => B → (C → (C → Bool) → Bool) → (B → Bool) → Bool) (fun _ _ md => md) y d F (fun x => K ⟨a, b, c, x, e, f, g, h⟩)) t F K⟩
 ⟨fun t => y.get t.e, fun t x => ⟨t.a, t.b, t.c, t.d, y.put t.e x, t.f, t.g, t.h⟩, fun t F K => N8.rec (motive:=fun _ => (C → (C → Bool) → Bool) → (N8 B → Bool) → Bool) (fun a b c d e f g h F K => Ln.rec (motive:=fun _ => B → (C → (C → Bool) → Bool) → (B → Bool) → Bool) (fun _ _ md => md) y e F (fun x => K ⟨a, b, c, d, x, f, g, h⟩)) t F K⟩
 ⟨fun t => y.get t.f, fun t x => ⟨t.a, t.b, t.c, t.d, t.e, y.put t.f x, t.g, t.h⟩, fun t F K => N8.rec (motive:=fun _ => (C → (C → Bool) → Bool) → (N8 B → Bool) → Bool) (fun a b c d e f g h F K => Ln.rec (motive:=fun _ => B → (C → (C → Bool) → Bool) → (B → Bool) → Bool) (fun _ _ md => md) y f F (fun x => K ⟨a, b, c, d, e, x, g, h⟩)) t F K⟩
 ⟨fun t => y.get t.g, fun t x => ⟨t.a, t.b, t.c, t.d, t.e, t.f, y.put t.g x, t.h⟩, fun t F K => N8.rec (motive:=fun _ => (C → (C → Bool) → Bool) → (N8 B → Bool) → Bool) (fun a b c d e f g h F K => Ln.rec (motive:=fun _ => B → (C → (C → Bool) → Bool) → (B → Bool) → Bool) (fun _ _ md => md) y g F (fun x => K ⟨a, b, c, d, e, f, x, h⟩)) t F K⟩
 ⟨fun t => y.get t.h, fun t x => ⟨t.a, t.b, t.c, t.d, t.e, t.f, t.g, y.put t.h x⟩, fun t F K => N8.rec (motive:=fun _ => (C → (C → Bool) → Bool) → (N8 B → Bool) → Bool) (fun a b c d e f g h F K => Ln.rec (motive:=fun _ => B → (C → (C → Bool) → Bool) → (B → Bool) → Bool) (fun _ _ md => md) y h F (fun x => K ⟨a, b, c, d, e, f, g, x⟩)) t F K⟩
 d
noncomputable def at8 {B : Type} (t : N8 B) (d : Nat) : B:=sel t.a t.b t.c t.d t.e t.f t.g t.h d
noncomputable def up8 {B : Type} (t : N8 B) (d : Nat) (x : B) : N8 B:=sel
 ⟨x, t.b, t.c, t.d, t.e, t.f, t.g, t.h⟩
 ⟨t.a, x, t.c, t.d, t.e, t.f, t.g, t.h⟩
 ⟨t.a, t.b, x, t.d, t.e, t.f, t.g, t.h⟩
 ⟨t.a, t.b, t.c, x, t.e, t.f, t.g, t.h⟩
 ⟨t.a, t.b, t.c, t.d, x, t.f, t.g, t.h⟩
 ⟨t.a, t.b, t.c, t.d, t.e, x, t.g, t.h⟩
 ⟨t.a, t.b, t.c, t.d, t.e, t.f, x, t.h⟩
 ⟨t.a, t.b, t.c, t.d, t.e, t.f, t.g, x⟩
 d
theorem below8 {d : Nat} (h : d < 8) : d = 0 ∨ d = 1 ∨ d = 2 ∨ d = 3 ∨ d = 4 ∨ d = 5 ∨ d = 6 ∨ d = 7:=by omega
theorem lnc_get {B C : Type} (y : Ln B C) {d : Nat} (hd : d < 8) (t : N8 B) : (lnc y d).get t = y.get (at8 t d):=by
 rcases below8 hd with h | h | h | h | h | h | h | h <;> subst h <;> rfl
theorem lnc_put {B C : Type} (y : Ln B C) {d : Nat} (hd : d < 8) (t : N8 B) (x : C) : (lnc y d).put t x = up8 t d (y.put (at8 t d) x):=by
 rcases below8 hd with h | h | h | h | h | h | h | h <;> subst h <;> rfl
theorem lnc_mod {B C : Type} (y : Ln B C) {d : Nat} (hd : d < 8) (t : N8 B) (F : C → (C → Bool) → Bool) (K : N8 B → Bool) : (lnc y d).mod t F K = y.mod (at8 t d) F fun x => K (up8 t d x):=by
 rcases below8 hd with h | h | h | h | h | h | h | h <;> subst h <;> rfl
theorem at8_up8 {B : Type} (t : N8 B) {d d' : Nat} (hd : d < 8) (hd' : d' < 8) (x : B) : at8 (up8 t d x) d' = if d' = d then x else at8 t d':=by
 rcases below8 hd with h | h | h | h | h | h | h | h <;> subst h <;> (rcases below8 hd' with h | h | h | h | h | h | h | h <;> subst h <;> rfl)
noncomputable def litT {T : Type} (n : Nat) (f : Nat → T) : T:=Nat.rec (motive:=fun _ => T) (f 0) (fun p _ => f (Nat.succ p)) n
theorem litT_eq {T : Type} (n : Nat) (f : Nat → T) : litT n f = f n:=by cases n <;> rfl
noncomputable def lensD (α : Type) (k : Nat) : Nat → Ln (TD α k) (Option α):=Nat.rec (motive:=fun k => Nat → Ln (TD α k) (Option α)) (fun _ => ⟨fun t => t, fun _ x => x, fun t F K => F t K⟩) (fun _ ih n => litT (Nat.div n 8) fun q => lnc (ih q) (Nat.mod n 8)) k
theorem lensD_succ (α : Type) (k n : Nat) : lensD α (k + 1) n = lnc (lensD α k (n / 8)) (n % 8):=by
 show litT (Nat.div n 8) (fun q => lnc (lensD α k q) (Nat.mod n 8)) = _
 rw [litT_eq]
 rfl
theorem lensD_mod (α : Type) : ∀ (k n : Nat) (t : TD α k) (F : Option α → (Option α → Bool) → Bool) (K : TD α k → Bool), (lensD α k n).mod t F K = F ((lensD α k n).get t) fun a => K ((lensD α k n).put t a)
 | 0, n, t, F, K => rfl
 | k + 1, n, t, F, K => by
   have h8 : n % 8 < 8:=Nat.mod_lt _ (by decide)
   have key : ∀ (t : N8 (TD α k)) (F : Option α → (Option α → Bool) → Bool) (K : N8 (TD α k) → Bool), (lnc (lensD α k (n / 8)) (n % 8)).mod t F K = F ((lnc (lensD α k (n / 8)) (n % 8)).get t) fun a => K ((lnc (lensD α k (n / 8)) (n % 8)).put t a):=by
     intro t F K
     rw [lnc_mod _ h8, lensD_mod α k, lnc_get _ h8]
     congr 1
     funext a
     rw [lnc_put _ h8]
   rw [lensD_succ]
   exact key t F K
theorem lensD_get_put (α : Type) : ∀ (k n m : Nat) (t : TD α k) (a : Option α), n < 8 ^ k → m < 8 ^ k → (lensD α k m).get ((lensD α k n).put t a) = if m = n then a else (lensD α k m).get t
 | 0, n, m, t, a, hn, hm => by
   have h1 : n = 0:=by simpa using hn
   have h2 : m = 0:=by simpa using hm
   subst h1; subst h2
   rfl
 | k + 1, n, m, t, a, hn, hm => by
   have h8 : n % 8 < 8:=Nat.mod_lt _ (by decide)
   have h8' : m % 8 < 8:=Nat.mod_lt _ (by decide)
   rw [Nat.pow_succ] at hn hm
   have key : ∀ (t : N8 (TD α k)), (lnc (lensD α k (m / 8)) (m % 8)).get ((lnc (lensD α k (n / 8)) (n % 8)).put t a) = if m = n then a else (lnc (lensD α k (m / 8)) (m % 8)).get t:=by
     intro t
     have ih:=lensD_get_put α k (n / 8) (m / 8) (at8 t (n % 8)) a (by omega) (by omega)
     rw [lnc_get _ h8', lnc_put _ h8, at8_up8 _ h8 h8', lnc_get _ h8']
     by_cases hd : m % 8 = n % 8
     · rw [if_pos hd, ih, hd]
       by_cases he : m = n
       · rw [if_pos (by rw [he]), if_pos he]
       · rw [if_neg (by omega), if_neg he]
     · rw [if_neg hd, if_neg (by intro e; rw [e] at hd; exact hd rfl)]
   rw [lensD_succ, lensD_succ]
   exact key t
noncomputable def empD (α : Type) (k : Nat) : TD α k:=Nat.rec (motive:=fun k => TD α k) (none : Option α) (fun _ x => (⟨x, x, x, x, x, x, x, x⟩ : N8 _)) k
theorem at8_same {B : Type} (x : B) {d : Nat} (hd : d < 8) : at8 (⟨x, x, x, x, x, x, x, x⟩ : N8 B) d = x:=by
 rcases below8 hd with h | h | h | h | h | h | h | h <;> subst h <;> rfl
theorem empD_get (α : Type) : ∀ (k n : Nat), (lensD α k n).get (empD α k) = none
 | 0, n => rfl
 | k + 1, n => by
   have h8 : n % 8 < 8:=Nat.mod_lt _ (by decide)
   have key : (lnc (lensD α k (n / 8)) (n % 8)).get (⟨empD α k, empD α k, empD α k, empD α k, empD α k, empD α k, empD α k, empD α k⟩ : N8 (TD α k)) = none:=by
     rw [lnc_get _ h8, at8_same _ h8, empD_get α k]
   rw [lensD_succ]
   exact key
structure Tr (α : Type) where
 s : TD α 6
 o : Nat → Option α
namespace Tr
variable {α : Type}
noncomputable def get (t : Tr α) (n : Nat) : Option α:=Bool.rec (motive:=fun _ => Option α) (t.o n) ((lensD α 6 n).get t.s) (Nat.ble n 262143)
noncomputable def set (t : Tr α) (n : Nat) (a : Option α) : Tr α:=Bool.rec (motive:=fun _ => Tr α) ⟨t.s, fun m => if m = n then a else t.o m⟩ ⟨(lensD α 6 n).put t.s a, t.o⟩ (Nat.ble n 262143)
noncomputable def nil : Tr α:=⟨empD α 6, fun _ => none⟩
noncomputable def full (_ : Nat) : Tr α:=nil
theorem ble_false {n m : Nat} (h : Nat.ble n m = false) : m < n:=by
 rcases Nat.lt_or_ge m n with h1 | h1
 · exact h1
 · rw [Nat.ble_eq_true_of_le h1] at h; cases h
theorem get_nil (n : Nat) : (nil : Tr α).get n = none:=by
 unfold get nil
 cases Nat.ble n 262143 with
 | false => rfl
 | true => exact empD_get α 6 n
theorem full_get (d n : Nat) : (full d : Tr α).get n = none:=get_nil n
theorem get_set (t : Tr α) (n : Nat) (a : Option α) (m : Nat) : (t.set n a).get m = if m = n then a else t.get m:=by
 unfold get set
 cases hn : Nat.ble n 262143 with
 | true =>
   cases hm : Nat.ble m 262143 with
   | true =>
     have hn:=Nat.le_of_ble_eq_true hn
     have hm:=Nat.le_of_ble_eq_true hm
     exact lensD_get_put α 6 n m t.s a (by omega) (by omega)
   | false =>
     have hn:=Nat.le_of_ble_eq_true hn
     have hm:=ble_false hm
     rw [if_neg (by omega)]
 | false =>
   cases hm : Nat.ble m 262143 with
   | true =>
     have hn:=ble_false hn
     have hm:=Nat.le_of_ble_eq_true hm
     rw [if_neg (by omega)]
   | false => rfl
theorem get_set_eq (t : Tr α) (n : Nat) (a : Option α) : (t.set n a).get n = a:=by rw [get_set, if_pos rfl]
theorem get_set_ne (t : Tr α) (n : Nat) (a : Option α) (m : Nat) (h : m ≠ n) : (t.set n a).get m = t.get m:=by rw [get_set, if_neg h]
noncomputable def modK (t : Tr α) (n : Nat) (f : Option α → (Option α → Bool) → Bool) (K : Tr α → Bool) : Bool :=
 Bool.rec (motive:=fun _ => Bool) (f (t.get n) fun a => K (t.set n a)) (Tr.rec (motive:=fun _ => Bool) (fun s o => (lensD α 6 n).modK s f fun s' => K ⟨s', o⟩) t) (Nat.ble n 262143)
theorem modK_eq (t : Tr α) (n : Nat) (f : Option α → (Option α → Bool) → Bool) (K : Tr α → Bool) : t.modK n f K = f (t.get n) fun a => K (t.set n a):=by
 unfold modK
 cases hn : Nat.ble n 262143 with
 | false => rfl
 | true =>
   obtain ⟨s, o⟩:=t
   show (lensD α 6 n).modK s f (fun s' => K ⟨s', o⟩) = _
   rw [Ln.modK_eq, lensD_mod]
   unfold get set
   rw [hn]
noncomputable def setK (t : Tr α) (n : Nat) (a : Option α) (K : Tr α → Bool) : Bool:=t.modK n (fun _ k => k a) K
theorem setK_eq (t : Tr α) (n : Nat) (a : Option α) (K : Tr α → Bool) : t.setK n a K = K (t.set n a):=by
 unfold setK
 rw [modK_eq]
end Tr
def fupd {α : Type} (G : Nat → Option α) (n : Nat) (a : Option α) : Nat → Option α:=fun m => if m = n then a else G m
theorem fupd_eq {α : Type} (G : Nat → Option α) (n : Nat) (a : Option α) : fupd G n a n = a:=if_pos rfl
theorem fupd_ne {α : Type} (G : Nat → Option α) (n : Nat) (a : Option α) (m : Nat) (h : m ≠ n) : fupd G n a m = G m:=if_neg h
theorem fupd_fupd {α : Type} (G : Nat → Option α) (n : Nat) (a b : Option α) : fupd (fupd G n a) n b = fupd G n b:=funext fun m => by unfold fupd; split <;> rfl
theorem Tr.get_set_fun {α : Type} (t : Tr α) (n : Nat) (a : Option α) : (t.set n a).get = fupd t.get n a:=funext fun m => Tr.get_set t n a m
structure Loc where
 rb : Nat
 δ : Nat
 tot : Nat
 es : Nat
inductive VRel (ι : Nat → Option Loc) : Value → Value → Prop where
 | bool (b : Bool) : VRel ι (.bool b) (.bool b)
 | int (k : IntKind) (n : Int) : VRel ι (.int k n) (.int k n)
 | float (k : FloatKind) (b : Nat) : VRel ι (.float k b) (.float k b)
 | tok (id : Nat) (i : Loc) (h : ι id = some i) : VRel ι (.complex .f32 id 0) (.int .i64 ((i.δ : Int) - (i.tot : Int)))
 | bits (m r : Nat) (z : Int) (hm : m ≤ 63) (h : z % ((2 ^ m : Nat) : Int) = (r : Int)) : VRel ι (.complex .f64 m r) (.int .i64 z)
 | string (s : ByteArray) : VRel ι (.string s) (.string s)
 | nilPtr : VRel ι (.pointer none) (.pointer none)
 | ptr (id off : Nat) (i : Loc) (h : ι id = some i) : VRel ι (.pointer (some ⟨id, off, none⟩)) (.pointer (some ⟨i.rb, i.δ + off, none⟩))
 | nilSlice : VRel ι (.slice none 0 0) (.slice none 0 0)
 | slice (id off len c cap : Nat) (i : Loc) (ra : Addr) (h : ι id = some i) (hl : len ≤ cap) (hc : c = 0 ∨ cap + 1 = c)
     (hx : (ra = ⟨i.rb, i.δ + off, none⟩ ∧ i.δ + off + cap * i.es ≤ i.tot) ∨ (len = 0 ∧ cap = 0)) :
     VRel ι (.slice (some ⟨id, off, none⟩) len c) (.slice (some ra) len cap)
 | nilMap : VRel ι (.map none) (.map none)
 | map (id : Nat) (i : Loc) (h : ι id = some i) : VRel ι (.map (some id)) (.map (some i.rb))
 | nilFunc : VRel ι .nilFunc .nilFunc
 | func (fn : Fn) (f f' c c' : Array Value) (h1 : f.size = f'.size) (h2 : ∀ (i : Nat) (a : i < f.size) (b : i < f'.size), VRel ι f[i] f'[i])
     (h3 : c.size = c'.size) (h4 : ∀ (i : Nat) (a : i < c.size) (b : i < c'.size), VRel ι c[i] c'[i]) : VRel ι (.func fn f c) (.func fn f' c')
 | nilIface : VRel ι .nilIface .nilIface
 | iface (t : TypeId) (v v' : Value) (h : VRel ι v v') : VRel ι (.iface t v) (.iface t v')
 | agg (c c' : Array Value) (h1 : c.size = c'.size) (h2 : ∀ (i : Nat) (a : i < c.size) (b : i < c'.size), VRel ι c[i] c'[i]) : VRel ι (.agg c) (.agg c')
 | tuple (c c' : Array Value) (h1 : c.size = c'.size) (h2 : ∀ (i : Nat) (a : i < c.size) (b : i < c'.size), VRel ι c[i] c'[i]) : VRel ι (.tuple c) (.tuple c')
def ARel (ι : Nat → Option Loc) (c c' : Array Value) : Prop:=c.size = c'.size ∧ ∀ (i : Nat) (a : i < c.size) (b : i < c'.size), VRel ι c[i] c'[i]
theorem ARel.get {ι : Nat → Option Loc} {c c' : Array Value} (h : ARel ι c c') {i : Nat} {v : Value} (hv : c[i]? = some v) : ∃ v', c'[i]? = some v' ∧ VRel ι v v':=by
 obtain ⟨hi, rfl⟩:=Array.getElem?_eq_some_iff.1 hv
 exact ⟨c'[i]'(h.1 ▸ hi), Array.getElem?_eq_getElem _, h.2 i hi _⟩
theorem ARel.of_get {ι : Nat → Option Loc} {c c' : Array Value} (hs : c.size = c'.size) (h : ∀ (i : Nat) (v : Value), c[i]? = some v → ∃ v', c'[i]? = some v' ∧ VRel ι v v') : ARel ι c c' :=
 ⟨hs, fun i a b => by
   obtain ⟨v', h1, h2⟩:=h i c[i] (Array.getElem?_eq_getElem a)
   rw [Array.getElem?_eq_getElem b] at h1
   cases h1
   exact h2⟩
theorem ARel.empty {ι : Nat → Option Loc} : ARel ι #[] #[]:=⟨rfl, fun i a _ => by simp at a⟩
def Grows (ι ι' : Nat → Option Loc) : Prop:=∀ id i, ι id = some i → ι' id = some i
theorem Grows.refl (ι : Nat → Option Loc) : Grows ι ι:=fun _ _ h => h
theorem Grows.trans {ι ι' ι'' : Nat → Option Loc} (h : Grows ι ι') (h' : Grows ι' ι'') : Grows ι ι'':=fun id i e => h' id i (h id i e)
theorem VRel.grow {ι ι' : Nat → Option Loc} (hg : Grows ι ι') {v v' : Value} (h : VRel ι v v') : VRel ι' v v':=by
 induction h with
 | bool b => exact .bool b
 | int k n => exact .int k n
 | float k b => exact .float k b
 | tok id i h => exact .tok id i (hg _ _ h)
 | bits m r z hm h => exact .bits m r z hm h
 | string s => exact .string s
 | nilPtr => exact .nilPtr
 | ptr id off i h => exact .ptr id off i (hg _ _ h)
 | nilSlice => exact .nilSlice
 | slice id off len c cap i ra h hl hc hx => exact .slice id off len c cap i ra (hg _ _ h) hl hc hx
 | nilMap => exact .nilMap
 | map id i h => exact .map id i (hg _ _ h)
 | nilFunc => exact .nilFunc
 | func fn f f' c c' h1 _ h3 _ ih1 ih2 => exact .func fn f f' c c' h1 ih1 h3 ih2
 | nilIface => exact .nilIface
 | iface t v v' _ ih => exact .iface t v v' ih
 | agg c c' h1 _ ih => exact .agg c c' h1 ih
 | tuple c c' h1 _ ih => exact .tuple c c' h1 ih
theorem ARel.grow {ι ι' : Nat → Option Loc} (hg : Grows ι ι') {c c' : Array Value} (h : ARel ι c c') : ARel ι' c c':=⟨h.1, fun i a b => (h.2 i a b).grow hg⟩
def scalar : Value → Bool
 | .bool _ | .int _ _ | .float _ _ | .string _ | .nilFunc | .nilIface | .pointer none | .slice none 0 0 | .map none => true
 | .func _ f c => f.size == 0 && c.size == 0
 | _ => false
def flat1 : Value → Bool
 | .agg cs => cs.toList.all scalar
 | v => scalar v
def flat : Value → Bool
 | .agg cs => cs.toList.all scalar
 | .tuple cs => cs.toList.all flat1
 | .iface _ v => scalar v
 | v => scalar v
theorem VRel.of_scalar {ι : Nat → Option Loc} {v : Value} (h : scalar v = true) : VRel ι v v:=by
 unfold scalar at h
 split at h <;> first
   | (constructor; done)
   | (simp only [Bool.and_eq_true, beq_iff_eq] at h
      refine .func _ _ _ _ _ rfl (fun i a _ => ?_) rfl (fun i a _ => ?_)
      · omega
      · omega)
   | cases h
theorem VRel.of_flat1 {ι : Nat → Option Loc} {v : Value} (h : flat1 v = true) : VRel ι v v:=by
 unfold flat1 at h
 split at h
 · refine .agg _ _ rfl fun i a _ => VRel.of_scalar ?_
   exact List.all_eq_true.1 h _ (Array.mem_toList_iff.2 (Array.getElem_mem a))
 · exact VRel.of_scalar h
theorem VRel.of_flat {ι : Nat → Option Loc} {v : Value} (h : flat v = true) : VRel ι v v:=by
 unfold flat at h
 split at h
 · refine .agg _ _ rfl fun i a _ => VRel.of_scalar ?_
   exact List.all_eq_true.1 h _ (Array.mem_toList_iff.2 (Array.getElem_mem a))
 · refine .tuple _ _ rfl fun i a _ => VRel.of_flat1 ?_
   exact List.all_eq_true.1 h _ (Array.mem_toList_iff.2 (Array.getElem_mem a))
 · exact .iface _ _ _ (VRel.of_scalar h)
 · exact VRel.of_scalar h
theorem VRel.scalar_eq {ι : Nat → Option Loc} {v v' : Value} (h : VRel ι v v') (hs : scalar v = true) : v' = v:=by
 cases h <;> first
   | rfl
   | (simp [scalar] at hs; done)
   | (rename_i h1 h2 h3 h4
      simp only [scalar, Bool.and_eq_true, beq_iff_eq] at hs
      obtain ⟨e1, e2⟩:=hs
      rename_i f f' c c'
      obtain rfl : f = #[]:=Array.eq_empty_of_size_eq_zero e1
      obtain rfl : c = #[]:=Array.eq_empty_of_size_eq_zero e2
      obtain rfl : f' = #[]:=Array.eq_empty_of_size_eq_zero (by simpa using h1.symm)
      obtain rfl : c' = #[]:=Array.eq_empty_of_size_eq_zero (by simpa using h3.symm)
      rfl)
theorem VRel.flat_eq {ι : Nat → Option Loc} {v v' : Value} (h : VRel ι v v') (hs : flat v = true) : v' = v:=by
 have key : ∀ {c c' : Array Value} {p : Value → Bool} (hp : ∀ {x y : Value}, VRel ι x y → p x = true → y = x), c.toList.all p = true → (h1 : c.size = c'.size) → (∀ (i : Nat) (a : i < c.size) (b : i < c'.size), VRel ι c[i] c'[i]) → c' = c:=by
   intro c c' p hp hc h1 h2
   exact Array.ext h1.symm fun i a b => hp (h2 i b a) (List.all_eq_true.1 hc _ (Array.mem_toList_iff.2 (Array.getElem_mem b)))
 have one : ∀ {x y : Value}, VRel ι x y → flat1 x = true → y = x:=by
   intro x y hx hf
   cases x with
   | agg c => cases hx with
     | agg _ c' h1 h2 => exact congrArg Value.agg (key (fun a b => a.scalar_eq b) hf h1 h2)
   | _ => exact hx.scalar_eq hf
 cases v with
 | agg c => cases h with
   | agg _ c' h1 h2 => exact congrArg Value.agg (key (fun a b => a.scalar_eq b) hs h1 h2)
 | tuple c => cases h with
   | tuple _ c' h1 h2 => exact congrArg Value.tuple (key one hs h1 h2)
 | iface t v => cases h with
   | iface _ _ v' h => exact congrArg (Value.iface t) (h.scalar_eq hs)
 | _ => exact h.scalar_eq hs
theorem VRel.oneCell {ι : Nat → Option Loc} {v v' : Value} (h : VRel ι v v') : v'.oneCell' = v.oneCell':=by cases h <;> rfl
theorem VRel.cells {ι : Nat → Option Loc} {v v' : Value} (h : VRel ι v v') : ARel ι v.cells v'.cells:=by
 have one : ∀ {u u' : Value}, VRel ι u u' → ARel ι #[u] #[u']:=fun {u u'} hu => ⟨rfl, fun i a _ => by
   obtain rfl : i = 0:=by simpa using a
   exact hu⟩
 cases h with
 | agg c c' h1 h2 => exact ⟨h1, h2⟩
 | bool b => exact one (.bool b)
 | int k n => exact one (.int k n)
 | float k b => exact one (.float k b)
 | tok id i h => exact one (.tok id i h)
 | bits m r z hm h => exact one (.bits m r z hm h)
 | string s => exact one (.string s)
 | nilPtr => exact one .nilPtr
 | ptr id off i h => exact one (.ptr id off i h)
 | nilSlice => exact one .nilSlice
 | slice id off len c cap i ra h hl hc hx => exact one (.slice id off len c cap i ra h hl hc hx)
 | nilMap => exact one .nilMap
 | map id i h => exact one (.map id i h)
 | nilFunc => exact one .nilFunc
 | func fn f f' c c' h1 h2 h3 h4 => exact one (.func fn f f' c c' h1 h2 h3 h4)
 | nilIface => exact one .nilIface
 | iface t v v' h => exact one (.iface t v v' h)
 | tuple c c' h1 h2 => exact one (.tuple c c' h1 h2)
noncomputable def beqB (a b : ByteArray) : Bool:=a.data.toList == b.data.toList
noncomputable def assocT : List (ByteArray × Value) → ByteArray → Option Value
 | [], _ => none
 | (k, v) :: r, s => if beqB s k = true then some v else assocT r s
inductive AObj where
 | cells (cs : List Value) (e : TypeId) (wr : Bool)
 | map (es : List MapEntry) (clock : Nat) (wr : Bool)
 | table (f : List (ByteArray × Value))
def AObj.wr : AObj → Bool
 | .cells _ _ b => b
 | .map _ _ b => b
 | .table _ => false
def ERel (ι : Nat → Option Loc) : List MapEntry → List MapEntry → Prop
 | [], [] => True
 | a :: as, b :: bs => (b.key = a.key ∧ b.born = a.born ∧ VRel ι a.val b.val) ∧ ERel ι as bs
 | _, _ => False
theorem ERel.grow {ι ι' : Nat → Option Loc} (hg : Grows ι ι') : ∀ {a b : List MapEntry}, ERel ι a b → ERel ι' a b
 | [], [], _ => trivial
 | _ :: _, _ :: _, ⟨⟨h2, h3, h4⟩, h⟩ => ⟨⟨h2, h3, h4.grow hg⟩, h.grow hg⟩
def szD (P : Program) (t : TypeId) : Nat:=match P.info? t with | some i => i.size | none => 0
def ORel (P : Program) (base : Nat) (ι : Nat → Option Loc) (i : Loc) (w : World) : AObj → Prop
 | .cells cs e wr => ∃ arr fz, w.heap[i.rb]? = some (.cells arr e fz) ∧ arr.size = i.tot ∧ i.δ + cs.length ≤ i.tot ∧
     (∀ (j : Nat) (c : Value), cs[j]? = some c → ∃ v, arr[i.δ + j]? = some v ∧ VRel ι c v) ∧ szD P e = i.es ∧
     (wr = true → base ≤ i.rb ∧ ∀ o, o < i.tot → ¬ (fz.1 ≤ o ∧ o < fz.2))
 | .map es clock wr => ∃ es', w.heap[i.rb]? = some (.map es' clock) ∧ ERel ι es es'.toList ∧ (wr = true → base ≤ i.rb)
 | .table f => ∃ es clock, w.heap[i.rb]? = some (.map es clock) ∧ ∀ kt s, P.underlying kt = some .string → match assocT f s with
     | some v => flat v = true ∧ ∃ j, ∀ w', (Instr.findKey kt (.string s) es.toList).run P w' = .ok (some (j, v)) w'
     | none => ∀ w', (Instr.findKey kt (.string s) es.toList).run P w' = .ok none w'
theorem ORel.grow {P : Program} {base : Nat} {ι ι' : Nat → Option Loc} {i : Loc} {w w' : World} (hg : Grows ι ι') (hb : w'.heap[i.rb]? = w.heap[i.rb]?) : ∀ {o : AObj}, ORel P base ι i w o → ORel P base ι' i w' o
 | .cells cs e wr, ⟨arr, fz, h1, h2, h3, h4, h5⟩ => ⟨arr, fz, hb.trans h1, h2, h3, fun j c hc => let ⟨v, a, b⟩:=h4 j c hc; ⟨v, a, b.grow hg⟩, h5⟩
 | .map es clock wr, ⟨es', h1, h2, h3⟩ => ⟨es', hb.trans h1, h2.grow hg, h3⟩
 | .table f, ⟨es, clock, h1, h2⟩ => ⟨es, clock, hb.trans h1, h2⟩
structure Start where
 w : World
 ι : Nat → Option Loc
structure Inv (P : Program) (base : Nat) (w0 : Start) (ι : Nat → Option Loc) (H : Nat → Option AObj) (w : World) : Prop where
 below : Below base w0.w w
 base_le : base ≤ w0.w.heap.size
 init : Grows w0.ι ι
 obj : ∀ id i o, ι id = some i → H id = some o → ORel P base ι i w o
 inj : ∀ id id' i i' o o', ι id = some i → ι id' = some i' → H id = some o → H id' = some o' → id ≠ id' → o.wr = true → i.rb ≠ i'.rb
 lt : ∀ id i, ι id = some i → i.rb < w.heap.size
 glob : ∀ g, g < P.globals.size → (H g).isSome = true → ∃ i, ι g = some i ∧ i.rb = g ∧ i.δ = 0
theorem Inv.still {P : Program} {base : Nat} {w0 : Start} {ι : Nat → Option Loc} {H : Nat → Option AObj} {w w' : World} (h : Inv P base w0 ι H w) (hb : Below w.heap.size w w') : Inv P base w0 ι H w' where
 below:=h.below.trans (hb.mono (Nat.le_trans h.base_le h.below.size))
 base_le:=h.base_le
 init:=h.init
 obj:=fun id i o h1 h2 => (h.obj id i o h1 h2).grow (Grows.refl _) (hb.block _ (h.lt id i h1))
 inj:=h.inj
 lt:=fun id i h1 => Nat.lt_of_lt_of_le (h.lt id i h1) hb.size
 glob:=h.glob
end Go.Proofs.YtacknhbgfijkcaaGreatDoor.Abs
end
section
/- The engine, part 2: how the sketch of memory follows a new block, a store, an append, a map's entry. -/
namespace Go.Proofs.YtacknhbgfijkcaaGreatDoor.Abs
open Go Go.RowKit
structure Turn (ι : Nat → Option Loc) (n : Nat) (H : Nat → Option AObj) (ι' : Nat → Option Loc) (n' : Nat) (H' : Nat → Option AObj) : Prop where
 le : n ≤ n'
 grow : Grows ι ι'
 out : ∀ id, ¬ (n ≤ id ∧ id < n') → ι' id = ι id ∧ (ι id = none → H' id = H id)
theorem Turn.refl (ι : Nat → Option Loc) (n : Nat) (H : Nat → Option AObj) : Turn ι n H ι n H:=⟨Nat.le_refl _, Grows.refl _, fun _ _ => ⟨rfl, fun _ => rfl⟩⟩
theorem Turn.trans {ι ι1 ι2 : Nat → Option Loc} {n n1 n2 : Nat} {H H1 H2 : Nat → Option AObj} (h : Turn ι n H ι1 n1 H1) (k : Turn ι1 n1 H1 ι2 n2 H2) : Turn ι n H ι2 n2 H2 :=
 ⟨Nat.le_trans h.le k.le, h.grow.trans k.grow, fun id hid => by
   have a:=h.out id (fun x => hid ⟨x.1, Nat.lt_of_lt_of_le x.2 k.le⟩)
   have b:=k.out id (fun x => hid ⟨Nat.le_trans h.le x.1, x.2⟩)
   exact ⟨b.1.trans a.1, fun e => (b.2 (a.1.trans e)).trans (a.2 e)⟩⟩
theorem alloc_new (w : World) (o : Obj) : (w.alloc o).heap[w.heap.size]? = some o:=by
 show (w.heap.push o)[w.heap.size]? = _
 simp
theorem Grows.upd {ι : Nat → Option Loc} {m : Nat} (hm : ι m = none) (i : Loc) : Grows ι (fupd ι m (some i)):=fun id j h => by
 rw [fupd_ne _ _ _ _ (by rintro rfl; rw [hm] at h; cases h)]; exact h
section
variable {P : Program} {base : Nat} {w0 : Start} {ι : Nat → Option Loc} {H : Nat → Option AObj} {w w' : World}
theorem Inv.new (h : Inv P base w0 ι H w) {m : Nat} (hm : ι m = none) (hg : P.globals.size ≤ m) (ob : Obj) (o : AObj) (i : Loc) (hi : i.rb = w.heap.size)
   (ho : ORel P base (fupd ι m (some i)) i (w.alloc ob) o) : Inv P base w0 (fupd ι m (some i)) (fupd H m (some o)) (w.alloc ob):=by
 have hgr:=Grows.upd hm i
 have hb : Below w.heap.size w (w.alloc ob):=(Below.refl _ w).alloc (Nat.le_refl _) _
 refine ⟨(h.still hb).below, h.base_le, h.init.trans hgr, ?_, ?_, ?_, ?_⟩
 · intro id j o' h1 h2
   by_cases e : id = m
   · subst e
     rw [fupd_eq] at h1 h2
     cases h1; cases h2
     exact ho
   · rw [fupd_ne _ _ _ _ e] at h1 h2
     exact (h.obj id j o' h1 h2).grow hgr (hb.block _ (h.lt id j h1))
 · intro id id' j j' o1 o2 h1 h2 h3 h4 hne hw
   by_cases e : id = m
   · subst e
     rw [fupd_eq] at h1
     cases h1
     rw [fupd_ne _ _ _ _ (fun x => hne x.symm)] at h2
     have:=h.lt id' j' h2
     omega
   · rw [fupd_ne _ _ _ _ e] at h1 h3
     by_cases e' : id' = m
     · subst e'
       rw [fupd_eq] at h2
       cases h2
       have:=h.lt id j h1
       omega
     · rw [fupd_ne _ _ _ _ e'] at h2 h4
       exact h.inj id id' j j' o1 o2 h1 h2 h3 h4 hne hw
 · intro id j h1
   rw [World.size_alloc]
   by_cases e : id = m
   · subst e
     rw [fupd_eq] at h1
     cases h1
     omega
   · rw [fupd_ne _ _ _ _ e] at h1
     have:=h.lt id j h1
     omega
 · intro g hlt hs
   have e : g ≠ m:=by omega
   rw [fupd_ne _ _ _ _ e] at hs
   obtain ⟨j, h1, h2⟩:=h.glob g hlt hs
   exact ⟨j, by rw [fupd_ne _ _ _ _ e]; exact h1, h2⟩
theorem Turn.new {m : Nat} (hm : ι m = none) (o : AObj) (i : Loc) : Turn ι m H (fupd ι m (some i)) (m + 1) (fupd H m (some o)) :=
 ⟨by omega, Grows.upd hm i, fun id hid => by
   have : id ≠ m:=by omega
   exact ⟨fupd_ne _ _ _ _ this, fun _ => fupd_ne _ _ _ _ this⟩⟩
theorem Inv.new_cells (h : Inv P base w0 ι H w) {m : Nat} (hm : ι m = none) (hg : P.globals.size ≤ m) {e es : Nat} (he : szD P e = es) (arr : Array Value) (fz : Nat × Nat) (hfz : ∀ o, o < arr.size → ¬ (fz.1 ≤ o ∧ o < fz.2))
   (cs : List Value) (hl : cs.length ≤ arr.size) (hr : ∀ (j : Nat) (c : Value), cs[j]? = some c → ∃ v, arr[j]? = some v ∧ VRel ι c v) :
   Inv P base w0 (fupd ι m (some ⟨w.heap.size, 0, arr.size, es⟩)) (fupd H m (some (.cells cs e true))) (w.alloc (.cells arr e fz)):=by
 refine h.new hm hg _ _ _ rfl ⟨arr, fz, alloc_new w _, rfl, by simpa using hl, fun j c hc => ?_, he, fun _ => ⟨Nat.le_trans h.base_le h.below.size, hfz⟩⟩
 obtain ⟨v, a, b⟩:=hr j c hc
 exact ⟨v, by simpa using a, b.grow (Grows.upd hm _)⟩
theorem Inv.new_map (h : Inv P base w0 ι H w) {m : Nat} (hm : ι m = none) (hg : P.globals.size ≤ m) (es : Nat) :
   Inv P base w0 (fupd ι m (some ⟨w.heap.size, 0, 0, es⟩)) (fupd H m (some (.map [] 0 true))) (w.alloc (.map #[] 0)) :=
 h.new hm hg _ _ _ rfl ⟨#[], alloc_new w _, trivial, fun _ => Nat.le_trans h.base_le h.below.size⟩
structure OnlyAt (rb : Nat) (w w' : World) : Prop where
 os : w'.os = w.os
 tape : w'.tape = w.tape
 output : w'.output = w.output
 size : w'.heap.size = w.heap.size
 block : ∀ k, k ≠ rb → w'.heap[k]? = w.heap[k]?
theorem OnlyAt.refl (rb : Nat) (w : World) : OnlyAt rb w w:=⟨rfl, rfl, rfl, rfl, fun _ _ => rfl⟩
theorem OnlyAt.trans {rb : Nat} {a b c : World} (h : OnlyAt rb a b) (k : OnlyAt rb b c) : OnlyAt rb a c :=
 ⟨k.os.trans h.os, k.tape.trans h.tape, k.output.trans h.output, k.size.trans h.size, fun i hi => (k.block i hi).trans (h.block i hi)⟩
theorem OnlyAt.below {rb : Nat} {w w' : World} (h : OnlyAt rb w w') (hb : base ≤ rb) : Below base w w' :=
 ⟨h.os, h.tape, h.output, Nat.le_of_eq h.size.symm, fun k hk => h.block k (by omega)⟩
theorem Inv.turn_block (h : Inv P base w0 ι H w) {id : Nat} {i : Loc} {o o' : AObj} (h1 : ι id = some i) (h2 : H id = some o) (hw : o.wr = true) (hb : base ≤ i.rb) (ho : OnlyAt i.rb w w') (hn : ORel P base ι i w' o') (hwr : o'.wr = true) :
   Inv P base w0 ι (fupd H id (some o')) w':=by
 refine ⟨h.below.trans (ho.below hb), h.base_le, h.init, ?_, ?_, ?_, ?_⟩
 · intro jd j oj a b
   by_cases e : jd = id
   · subst e
     rw [fupd_eq] at b
     cases b
     rw [h1] at a
     cases a
     exact hn
   · rw [fupd_ne _ _ _ _ e] at b
     exact (h.obj jd j oj a b).grow (Grows.refl _) (ho.block _ (fun x => h.inj id jd i j o oj h1 a h2 b (fun y => e y.symm) hw x.symm))
 · intro jd jd' j j' oj oj' a b c d hne hwj
   by_cases e : jd = id
   · subst e
     rw [fupd_ne _ _ _ _ (fun x => hne x.symm)] at d
     exact h.inj jd jd' j j' o oj' a b h2 d hne hw
   · rw [fupd_ne _ _ _ _ e] at c
     by_cases e' : jd' = id
     · subst e'
       exact h.inj jd jd' j j' oj o a b c h2 hne hwj
     · rw [fupd_ne _ _ _ _ e'] at d
       exact h.inj jd jd' j j' oj oj' a b c d hne hwj
 · intro jd j a
   rw [ho.size]
   exact h.lt jd j a
 · intro g hg hs
   by_cases e : g = id
   · subst e
     exact h.glob g hg (by rw [h2]; rfl)
   · rw [fupd_ne _ _ _ _ e] at hs
     exact h.glob g hg hs
theorem Turn.at_block {id : Nat} {i : Loc} {o' : Option AObj} (n : Nat) (h1 : ι id = some i) : Turn ι n H ι n (fupd H id o') :=
 ⟨Nat.le_refl _, Grows.refl _, fun jd _ => ⟨rfl, fun e => fupd_ne _ _ _ _ (by rintro rfl; rw [h1] at e; cases e)⟩⟩
theorem Inv.kill (h : Inv P base w0 ι H w) (id : Nat) : Inv P base w0 ι (fupd H id none) w:=by
 have key : ∀ {jd : Nat} {o : AObj}, fupd H id none jd = some o → H jd = some o:=fun {jd o} e => by
   by_cases x : jd = id
   · subst x; rw [fupd_eq] at e; cases e
   · rwa [fupd_ne _ _ _ _ x] at e
 exact ⟨h.below, h.base_le, h.init, fun jd i o a b => h.obj jd i o a (key b), fun jd jd' i i' o o' a b c d => h.inj jd jd' i i' o o' a b (key c) (key d), h.lt, fun g hg hs => by
   obtain ⟨o, ho⟩:=Option.isSome_iff_exists.1 hs
   exact h.glob g hg (by rw [key ho]; rfl)⟩
theorem Inv.rename (h : Inv P base w0 ι H w) {id m : Nat} {i : Loc} {o : AObj} (h1 : ι id = some i) (h2 : H id = some o) (hw : o.wr = true) (hm : ι m = none) (hmi : m ≠ id) (hg : P.globals.size ≤ m) {j : Loc} {o' : AObj} (hj : j.rb = i.rb)
   (hn : ORel P base (fupd ι m (some j)) j w o') : Inv P base w0 (fupd ι m (some j)) (fupd (fupd H id none) m (some o')) w:=by
 have hk:=h.kill id
 have hgr:=Grows.upd hm j
 have dead : ∀ {jd : Nat} {o : AObj}, fupd H id none jd = some o → jd ≠ id ∧ H jd = some o:=fun {jd o} e => by
   by_cases x : jd = id
   · subst x; rw [fupd_eq] at e; cases e
   · rw [fupd_ne _ _ _ _ x] at e; exact ⟨x, e⟩
 refine ⟨h.below, h.base_le, h.init.trans hgr, ?_, ?_, ?_, ?_⟩
 · intro jd k ok a b
   by_cases e : jd = m
   · subst e
     rw [fupd_eq] at a b
     cases a; cases b
     exact hn
   · rw [fupd_ne _ _ _ _ e] at a b
     exact (hk.obj jd k ok a b).grow hgr rfl
 · intro jd jd' k k' ok ok' a b c d hne hwk
   by_cases e : jd = m
   · subst e
     rw [fupd_eq] at a c
     cases a; cases c
     rw [fupd_ne _ _ _ _ (fun x => hne x.symm)] at b d
     obtain ⟨d1, d2⟩:=dead d
     rw [hj]
     exact h.inj id jd' i k' o ok' h1 b h2 d2 (fun x => d1 x.symm) hw
   · rw [fupd_ne _ _ _ _ e] at a c
     obtain ⟨c1, c2⟩:=dead c
     by_cases e' : jd' = m
     · subst e'
       rw [fupd_eq] at b
       cases b
       rw [hj]
       exact fun x => h.inj id jd i k o ok h1 a h2 c2 (fun y => c1 y.symm) hw x.symm
     · rw [fupd_ne _ _ _ _ e'] at b d
       exact hk.inj jd jd' k k' ok ok' a b c d hne hwk
 · intro jd k a
   by_cases e : jd = m
   · subst e
     rw [fupd_eq] at a
     cases a
     rw [hj]
     exact h.lt id i h1
   · rw [fupd_ne _ _ _ _ e] at a
     exact h.lt jd k a
 · intro g hlt hs
   have e : g ≠ m:=by omega
   rw [fupd_ne _ _ _ _ e] at hs
   obtain ⟨k, a, b⟩:=hk.glob g hlt hs
   exact ⟨k, by rw [fupd_ne _ _ _ _ e]; exact a, b⟩
theorem Inv.congr {H' : Nat → Option AObj} (h : Inv P base w0 ι H w) (e : ∀ id, H' id = H id) : Inv P base w0 ι H' w:=by
 obtain rfl : H' = H:=funext e
 exact h
end
theorem cell_of {w : World} {b : Nat} {arr : Array Value} {e : Nat} {fz : Nat × Nat} (h : w.heap[b]? = some (.cells arr e fz)) (o : Nat) : w.cell? ⟨b, o, none⟩ = arr[o]?:=by
 simp [World.cell?, h]
theorem frozen_of {w : World} {b : Nat} {arr : Array Value} {e : Nat} {fz : Nat × Nat} (h : w.heap[b]? = some (.cells arr e fz)) (o : Nat) : w.frozen? ⟨b, o, none⟩ = (decide (fz.1 ≤ o) && decide (o < fz.2)):=by
 simp [World.frozen?, h]
theorem addr_add (b o n : Nat) : (⟨b, o, none⟩ : Addr).add n = ⟨b, o + n, none⟩:=by
 unfold Addr.add; split
 · rename_i h; subst h; rfl
 · rfl
theorem storeCells_run (P : Program) (b o : Nat) (e : Nat) (fz : Nat × Nat) : ∀ (vs : List Value) (i : Nat) (arr : Array Value) (w : World), w.heap[b]? = some (.cells arr e fz) → o + i + vs.length ≤ arr.size →
   (∀ o, o < arr.size → ¬ (fz.1 ≤ o ∧ o < fz.2)) → (∀ v ∈ vs, v.oneCell' = true) →
   ∃ w' arr', (storeCells ⟨b, o, none⟩ vs i).run P w = .ok () w' ∧ OnlyAt b w w' ∧ w'.heap[b]? = some (.cells arr' e fz) ∧ arr'.size = arr.size ∧
     ∀ k, arr'[k]? = if o + i ≤ k ∧ k < o + i + vs.length then vs[k - (o + i)]? else arr[k]?
 | [], i, arr, w, h, _, _, _ => ⟨w, arr, rfl, OnlyAt.refl _ _, h, rfl, fun k => by rw [if_neg (by rw [List.length_nil]; omega)]⟩
 | v :: vs, i, arr, w, h, hs, hf, h1 => by
   have hlt : o + i < arr.size:=by simp at hs; omega
   have hcell : w.cell? ⟨b, o + i, none⟩ = some arr[o + i]:=by rw [cell_of h, Array.getElem?_eq_getElem hlt]
   have hfr : w.frozen? ⟨b, o + i, none⟩ = false:=by
     rw [frozen_of h]
     have:=hf (o + i) hlt
     rw [Bool.eq_false_iff]
     simpa using this
   have hw1 : (w.setCell ⟨b, o + i, none⟩ v).heap[b]? = some (.cells (arr.setIfInBounds (o + i) v) e fz):=by
     simp only [World.setCell, Array.getElem?_modify, h]
     simp
   obtain ⟨w', arr', r1, r2, r3, r4, r5⟩:=storeCells_run P b o e fz vs (i + 1) (arr.setIfInBounds (o + i) v) (w.setCell ⟨b, o + i, none⟩ v) hw1 (by simp at hs ⊢; omega) (by simpa using hf) (fun u hu => h1 u (by simp [hu]))
   refine ⟨w', arr', ?_, OnlyAt.trans (b:=w.setCell ⟨b, o + i, none⟩ v) ⟨rfl, rfl, rfl, by simp [World.setCell], fun k hk => Below.heap_setCell _ _ _ _ hk⟩ r2, r3, by rw [r4]; simp, fun k => ?_⟩
   · rw [show storeCells ⟨b, o, none⟩ (v :: vs) i = (do store ((⟨b, o, none⟩ : Addr).add i) v; storeCells ⟨b, o, none⟩ vs (i + 1)) from rfl, Sem.run_bind, addr_add, run_store P w _ v _ (h1 v (by simp)), hcell]
     simp only [hfr]
     exact r1
   · rw [r5 k]
     simp only [List.length_cons]
     by_cases hk : k = o + i
     · subst hk
       rw [if_neg (by omega), if_pos (by omega), Nat.sub_self]
       simp [hlt]
     · by_cases hk2 : o + (i + 1) ≤ k ∧ k < o + (i + 1) + vs.length
       · rw [if_pos hk2, if_pos (by omega), show k - (o + i) = (k - (o + (i + 1))) + 1 by omega, List.getElem?_cons_succ]
       · rw [if_neg hk2, if_neg (by omega)]
         simp [Array.getElem?_setIfInBounds]
         intro e; exact absurd e.symm hk
theorem loadCells_run (P : Program) {w : World} {b o n : Nat} {arr : Array Value} {e : Nat} {fz : Nat × Nat} (h : w.heap[b]? = some (.cells arr e fz)) (hn : o + n ≤ arr.size) :
   (loadCells ⟨b, o, none⟩ n).run P w = .ok (arr.extract o (o + n)) w:=by
 have hl : ((arr.extract o (o + n)).toList).length = n:=by simp; omega
 have:=run_loadCells_list (P:=P) (w:=w) ⟨b, o, none⟩ (arr.extract o (o + n)).toList (fun j v hj => by
   rw [addr_add, cell_of h]
   rw [Array.getElem?_toList, Array.getElem?_extract] at hj
   split at hj
   · exact hj
   · cases hj)
 rw [hl, Array.toArray_toList] at this
 exact this
end Go.Proofs.YtacknhbgfijkcaaGreatDoor.Abs
end
section
/- The engine, part 3: what operators make of values. -/
namespace Go.Proofs.YtacknhbgfijkcaaGreatDoor.Abs
open Go Go.RowKit
noncomputable def pureRun {α : Type} (P : Program) : Sem α → Option α
 | .pure a => some a
 | .program k => pureRun P (k P)
 | .mark _ k => pureRun P k
 | _ => none
theorem pureRun_ok {α : Type} {P : Program} : ∀ {s : Sem α} {a : α}, pureRun P s = some a → ∀ w, s.run P w = .ok a w
 | .pure b, a, h, w => by cases h; rfl
 | .program k, a, h, w => pureRun_ok (s:=k P) h w
 | .mark _ k, a, h, w => pureRun_ok (s:=k) h w
noncomputable def bapp (a b : ByteArray) : ByteArray:=⟨⟨a.data.toList ++ b.data.toList⟩⟩
theorem bapp_eq (a b : ByteArray) : bapp a b = a ++ b:=by
 apply ByteArray.ext
 apply Array.toList_inj.1
 simp [bapp]
noncomputable def bsub (s : ByteArray) (l h : Nat) : ByteArray:=⟨⟨(s.data.toList.drop l).take (h - l)⟩⟩
theorem bsub_eq (s : ByteArray) (l h : Nat) : bsub s l h = s.extract l h:=by
 apply ByteArray.ext
 apply Array.toList_inj.1
 rw [Lib.extract_data]; rfl
theorem beqB_eq (a b : ByteArray) : beqB a b = (a.toList == b.toList):=by
 unfold beqB
 rw [Go.ByteArray.toList_eq, Go.ByteArray.toList_eq]
theorem beqB_beq (a b : ByteArray) : beqB a b = (a == b):=by
 rw [beqB_eq, beq_toListBytes]
noncomputable def isConst : Operand → Bool
 | .const _ => true
 | _ => false
noncomputable def iKind (k k' : IntKind) (v : Value) : Option Value:=if k ≠ k' then none else some v
noncomputable def iShl (k : IntKind) (a b : Int) : Option Value:=if b < 0 then none else some (.int k (k.wrap (a * 2 ^ (min b.toNat k.bits))))
noncomputable def iShr (k : IntKind) (a b : Int) : Option Value:=if b < 0 then none else some (.int k (a.fdiv (2 ^ (min b.toNat k.bits))))
noncomputable def iQuo (k : IntKind) (a : Int) (k' : IntKind) (b : Int) : Option Value:=if k ≠ k' then none else if b = 0 then none else some (.int k (k.wrap (a.tdiv b)))
noncomputable def iRem (k : IntKind) (a : Int) (k' : IntKind) (b : Int) : Option Value:=if k ≠ k' then none else if b = 0 then none else some (.int k (a.tmod b))
noncomputable def iBits (P : Program) (op : BinOp) (k : IntKind) (a : Int) (k' : IntKind) (b : Int) : Option Value:=if k ≠ k' then none else pureRun P (Op.intBits op k a b)
noncomputable def iBin (P : Program) (op : BinOp) (k : IntKind) (a : Int) (k' : IntKind) (b : Int) : Option Value :=
 match op with
 | .shl => iShl k a b
 | .shr => iShr k a b
 | .add => iKind k k' (.int k (k.wrap (a + b)))
 | .sub => iKind k k' (.int k (k.wrap (a - b)))
 | .mul => iKind k k' (.int k (k.wrap (a * b)))
 | .quo => iQuo k a k' b
 | .rem => iRem k a k' b
 | .eql => iKind k k' (.bool (a == b))
 | .neq => iKind k k' (.bool (a != b))
 | .lss => iKind k k' (.bool (decide (a < b)))
 | .leq => iKind k k' (.bool (decide (a ≤ b)))
 | .gtr => iKind k k' (.bool (decide (a > b)))
 | .geq => iKind k k' (.bool (decide (a ≥ b)))
 | op => iBits P op k a k' b
noncomputable def abinI (P : Program) (op : BinOp) (k : IntKind) (a : Int) : Value → Option Value
 | .int k' b => iBin P op k a k' b
 | _ => none
noncomputable def sAdd (a b : ByteArray) : Option Value:=if a.size + b.size > 9223372036854775807 then none else some (.string (bapp a b))
noncomputable def sBin (op : BinOp) (a b : ByteArray) : Option Value :=
 match op with
 | .add => sAdd a b
 | .eql => some (.bool (beqB a b))
 | .neq => some (.bool !(beqB a b))
 | .lss => some (.bool (Op.bytesLess a.data.toList b.data.toList))
 | .leq => some (.bool (Op.bytesLess a.data.toList b.data.toList || beqB a b))
 | .gtr => some (.bool !(Op.bytesLess a.data.toList b.data.toList || beqB a b))
 | .geq => some (.bool !(Op.bytesLess a.data.toList b.data.toList))
 | _ => none
noncomputable def abinS (op : BinOp) (a : ByteArray) : Value → Option Value
 | .string b => sBin op a b
 | _ => none
noncomputable def abinV (P : Program) (op : BinOp) (t : TypeId) (xo yo : Operand) : Value → Value → Option Value
 | .bool a, .bool b =>
   match op, P.underlying t with
   | .eql, some .bool => some (.bool (a == b))
   | .neq, some .bool => some (.bool !(a == b))
   | _, _ => none
 | .pointer none, .pointer b =>
   match op, P.underlying t with
   | .eql, some (.pointer _) => some (.bool b.isNone)
   | .neq, some (.pointer _) => some (.bool !b.isNone)
   | _, _ => none
 | .pointer (some _), .pointer none =>
   match op, P.underlying t with
   | .eql, some (.pointer _) => some (.bool false)
   | .neq, some (.pointer _) => some (.bool true)
   | _, _ => none
 | .slice none _ _, .slice b _ _ =>
   match op, P.underlying t with
   | .eql, some (.slice _) => some (.bool b.isNone)
   | .neq, some (.slice _) => some (.bool !b.isNone)
   | _, _ => none
 | .slice (some _) _ _, .slice none _ _ =>
   match op, P.underlying t with
   | .eql, some (.slice _) => some (.bool false)
   | .neq, some (.slice _) => some (.bool true)
   | _, _ => none
 | .map none, .map b =>
   match op, P.underlying t with
   | .eql, some (.map _ _) => some (.bool b.isNone)
   | .neq, some (.map _ _) => some (.bool !b.isNone)
   | _, _ => none
 | .map (some _), .map none =>
   match op, P.underlying t with
   | .eql, some (.map _ _) => some (.bool false)
   | .neq, some (.map _ _) => some (.bool true)
   | _, _ => none
 | .nilFunc, .func _ _ _ =>
   match op, P.underlying t with
   | .eql, some (.func _ _ _) => some (.bool false)
   | .neq, some (.func _ _ _) => some (.bool true)
   | _, _ => none
 | .func _ _ _, .nilFunc =>
   match op, P.underlying t with
   | .eql, some (.func _ _ _) => some (.bool false)
   | .neq, some (.func _ _ _) => some (.bool true)
   | _, _ => none
 | .nilIface, .nilIface =>
   match isConst xo || isConst yo, op, P.underlying t with
   | true, .eql, some (.interface _) => some (.bool true)
   | true, .neq, some (.interface _) => some (.bool false)
   | _, _, _ => none
 | .iface _ _, .nilIface =>
   match op, P.underlying t with
   | .eql, some (.interface _) => some (.bool false)
   | .neq, some (.interface _) => some (.bool true)
   | _, _ => none
 | .nilIface, .iface _ _ =>
   match op, P.underlying t with
   | .eql, some (.interface _) => some (.bool false)
   | .neq, some (.interface _) => some (.bool true)
   | _, _ => none
 | .agg a, .agg b =>
   if flat (.agg a) && flat (.agg b) then
     match pureRun P (do eqGuard op t xo yo (.agg a) (.agg b); binOp op t (.agg a) (.agg b)) with
     | some (.bool c) => some (.bool c)
     | _ => none
   else none
 | _, _ => none
noncomputable def abin (P : Program) (op : BinOp) (t : TypeId) (xo yo : Operand) (x y : Value) : Option Value :=
 match x with
 | .int k a => abinI P op k a y
 | .string a => abinS op a y
 | x => abinV P op t xo yo x y
section
variable {P : Program} {ι : Nat → Option Loc}
theorem eql_run {t : TypeId} {w : World} {x y : Value} {b : Bool} {xo yo : Operand} (hg : (eqGuard .eql t xo yo x y).run P w = .ok () w) (hb : binOp .eql t x y = (do pure (.bool (← Op.equal t x y)) : Sem Value)) (h : ∀ d, (Op.equalIn (d + 1) t x y).run P w = .ok b w) :
   (do eqGuard .eql t xo yo x y; binOp .eql t x y).run P w = .ok (.bool b) w:=by
 rw [Sem.run_bind, hg, Result.andThen_ok, hb, Sem.run_bind, show Op.equal t x y = Op.equalIn (9999 + 1) t x y from rfl, h]; rfl
theorem neq_run {t : TypeId} {w : World} {x y : Value} {b : Bool} {xo yo : Operand} (hg : (eqGuard .neq t xo yo x y).run P w = .ok () w) (hb : binOp .neq t x y = (do pure (.bool (!(← Op.equal t x y))) : Sem Value)) (h : ∀ d, (Op.equalIn (d + 1) t x y).run P w = .ok b w) :
   (do eqGuard .neq t xo yo x y; binOp .neq t x y).run P w = .ok (.bool (!b)) w:=by
 rw [Sem.run_bind, hg, Result.andThen_ok, hb, Sem.run_bind, show Op.equal t x y = Op.equalIn (9999 + 1) t x y from rfl, h]; rfl
set_option maxHeartbeats 1000000 in
theorem abin_int {op : BinOp} {t : TypeId} {xo yo : Operand} {k k' : IntKind} {a b : Int} {v : Value} (h : abin P op t xo yo (.int k a) (.int k' b) = some v) (w : World) :
   (do eqGuard op t xo yo (.int k a) (.int k' b); binOp op t (.int k a) (.int k' b)).run P w = .ok v w ∧ flat v = true:=by
 have hg : (eqGuard op t xo yo (.int k a) (.int k' b)).run P w = .ok () w:=by
   cases op <;> rfl
 rw [Sem.run_bind, hg, Result.andThen_ok]
 have hib : iBin P op k a k' b = some v:=h
 unfold iBin at hib
 cases op
 case shl =>
   simp only [iShl] at hib
   split at hib
   · cases hib
   · rename_i hb; cases hib
     refine ⟨?_, rfl⟩
     simp [binOp, Op.shift, hb]
 case shr =>
   simp only [iShr] at hib
   split at hib
   · cases hib
   · rename_i hb; cases hib
     refine ⟨?_, rfl⟩
     simp [binOp, Op.shift, hb]
 all_goals
   simp only [iKind, iQuo, iRem, iBits] at hib
   split at hib
   · cases hib
   · rename_i hk
     have hk' : k = k':=Decidable.not_not.1 hk
     first
       | (cases hib; refine ⟨?_, rfl⟩; simp [binOp, hk', Op.intArith, Op.intCmp]; done)
       | (split at hib
          · cases hib
          · rename_i hb; cases hib; refine ⟨?_, rfl⟩; simp [binOp, hk', Op.intDiv, hb]; done)
       | (have hr:=pureRun_ok hib w
          refine ⟨by simp only [binOp, if_neg hk]; exact hr, ?_⟩
          first
            | (simp only [Op.intBits] at hib; cases hib; rfl)
            | (cases hib))
theorem abin_string {op : BinOp} {t : TypeId} {xo yo : Operand} {a b : ByteArray} {v : Value} (h : abin P op t xo yo (.string a) (.string b) = some v) (w : World) :
   (do eqGuard op t xo yo (.string a) (.string b); binOp op t (.string a) (.string b)).run P w = .ok v w ∧ flat v = true:=by
 have hg : (eqGuard op t xo yo (.string a) (.string b)).run P w = .ok () w:=by
   cases op <;> rfl
 have hm : IntKind.i64.max = 9223372036854775807:=rfl
 rw [Sem.run_bind, hg, Result.andThen_ok]
 replace h : sBin op a b = some v:=h
 unfold sBin at h
 cases op
 case add =>
   simp only [sAdd] at h
   split at h
   · cases h
   · rename_i hb; cases h
     refine ⟨?_, rfl⟩
     show (Op.stringOp .add a b).run P w = _
     unfold Op.stringOp
     dsimp only
     rw [if_neg (by rw [hm]; omega), bapp_eq]
     rfl
 all_goals
   cases h
   try (refine ⟨?_, rfl⟩; simp [binOp, Op.stringOp, beqB, Go.ByteArray.toList_eq])
set_option maxHeartbeats 1000000 in
theorem abin_ok {op : BinOp} {t : TypeId} {xo yo : Operand} {x y x' y' v : Value} (h : abin P op t xo yo x y = some v) (hx : VRel ι x x') (hy : VRel ι y y') (w : World) :
   (do eqGuard op t xo yo x' y'; binOp op t x' y').run P w = .ok v w ∧ flat v = true:=by
 cases hx with
 | int k a => cases hy with
   | int k' b => exact abin_int h w
   | _ => simp [abin, abinI, abinS, abinV] at h
 | string a => cases hy with
   | string b => exact abin_string h w
   | _ => simp [abin, abinI, abinS, abinV] at h
 | agg c c' h1 h2 => cases hy with
   | agg d d' h3 h4 =>
     dsimp only [abin, abinV] at h
     split at h
     · rename_i hf
       rw [Bool.and_eq_true] at hf
       have e1:=(VRel.agg (ι:=ι) c c' h1 h2).flat_eq hf.1
       have e2:=(VRel.agg (ι:=ι) d d' h3 h4).flat_eq hf.2
       rw [e1, e2]
       split at h
       · rename_i c0 hr
         cases h
         exact ⟨pureRun_ok hr w, rfl⟩
       · cases h
     · cases h
   | _ => simp [abin, abinI, abinS, abinV] at h
 | bool a => cases hy with
   | bool b =>
     dsimp only [abin, abinV] at h
     split at h <;> first | cases h | skip
     all_goals
       rename_i hu
       refine ⟨?_, rfl⟩
       first
         | exact eql_run rfl rfl (by intro d; simp only [Op.equalIn, Sem.run_bind, run_underlying hu, Result.andThen_ok, Sem.run_pure]; try rfl)
         | exact neq_run rfl rfl (by intro d; simp only [Op.equalIn, Sem.run_bind, run_underlying hu, Result.andThen_ok, Sem.run_pure]; try rfl)
         | exact neq_run (b:=false) rfl rfl (by intro d; simp only [Op.equalIn, Sem.run_bind, run_underlying hu, Result.andThen_ok, Sem.run_pure]; try rfl)
         | exact neq_run (b:=true) rfl rfl (by intro d; simp only [Op.equalIn, Sem.run_bind, run_underlying hu, Result.andThen_ok, Sem.run_pure]; try rfl)
   | _ => simp [abin, abinI, abinS, abinV] at h
 | nilPtr => cases hy with
   | nilPtr =>
     dsimp only [abin, abinV] at h
     split at h <;> first | cases h | skip
     all_goals
       rename_i hu
       refine ⟨?_, rfl⟩
       first
         | exact eql_run rfl rfl (by intro d; simp only [Op.equalIn, Sem.run_bind, run_underlying hu, Result.andThen_ok, Sem.run_pure]; try rfl)
         | exact neq_run rfl rfl (by intro d; simp only [Op.equalIn, Sem.run_bind, run_underlying hu, Result.andThen_ok, Sem.run_pure]; try rfl)
         | exact neq_run (b:=false) rfl rfl (by intro d; simp only [Op.equalIn, Sem.run_bind, run_underlying hu, Result.andThen_ok, Sem.run_pure]; try rfl)
         | exact neq_run (b:=true) rfl rfl (by intro d; simp only [Op.equalIn, Sem.run_bind, run_underlying hu, Result.andThen_ok, Sem.run_pure]; try rfl)
   | ptr id off i hi =>
     dsimp only [abin, abinV] at h
     split at h <;> first | cases h | skip
     all_goals
       rename_i hu
       refine ⟨?_, rfl⟩
       first
         | exact eql_run rfl rfl (by intro d; simp only [Op.equalIn, Sem.run_bind, run_underlying hu, Result.andThen_ok, Sem.run_pure]; try rfl)
         | exact neq_run rfl rfl (by intro d; simp only [Op.equalIn, Sem.run_bind, run_underlying hu, Result.andThen_ok, Sem.run_pure]; try rfl)
         | exact neq_run (b:=false) rfl rfl (by intro d; simp only [Op.equalIn, Sem.run_bind, run_underlying hu, Result.andThen_ok, Sem.run_pure]; try rfl)
         | exact neq_run (b:=true) rfl rfl (by intro d; simp only [Op.equalIn, Sem.run_bind, run_underlying hu, Result.andThen_ok, Sem.run_pure]; try rfl)
   | _ => simp [abin, abinI, abinS, abinV] at h
 | ptr id off i hi => cases hy with
   | nilPtr =>
     dsimp only [abin, abinV] at h
     split at h <;> first | cases h | skip
     all_goals
       rename_i hu
       refine ⟨?_, rfl⟩
       first
         | exact eql_run rfl rfl (by intro d; simp only [Op.equalIn, Sem.run_bind, run_underlying hu, Result.andThen_ok, Sem.run_pure]; try rfl)
         | exact neq_run rfl rfl (by intro d; simp only [Op.equalIn, Sem.run_bind, run_underlying hu, Result.andThen_ok, Sem.run_pure]; try rfl)
         | exact neq_run (b:=false) rfl rfl (by intro d; simp only [Op.equalIn, Sem.run_bind, run_underlying hu, Result.andThen_ok, Sem.run_pure]; try rfl)
         | exact neq_run (b:=true) rfl rfl (by intro d; simp only [Op.equalIn, Sem.run_bind, run_underlying hu, Result.andThen_ok, Sem.run_pure]; try rfl)
   | _ => simp [abin, abinI, abinS, abinV] at h
 | nilSlice => cases hy with
   | nilSlice =>
     dsimp only [abin, abinV] at h
     split at h <;> first | cases h | skip
     all_goals
       rename_i hu
       refine ⟨?_, rfl⟩
       first
         | exact eql_run rfl rfl (by intro d; simp only [Op.equalIn, Sem.run_bind, run_underlying hu, Result.andThen_ok, Sem.run_pure]; try rfl)
         | exact neq_run rfl rfl (by intro d; simp only [Op.equalIn, Sem.run_bind, run_underlying hu, Result.andThen_ok, Sem.run_pure]; try rfl)
         | exact neq_run (b:=false) rfl rfl (by intro d; simp only [Op.equalIn, Sem.run_bind, run_underlying hu, Result.andThen_ok, Sem.run_pure]; try rfl)
         | exact neq_run (b:=true) rfl rfl (by intro d; simp only [Op.equalIn, Sem.run_bind, run_underlying hu, Result.andThen_ok, Sem.run_pure]; try rfl)
   | slice =>
     dsimp only [abin, abinV] at h
     split at h <;> first | cases h | skip
     all_goals
       rename_i hu
       refine ⟨?_, rfl⟩
       first
         | exact eql_run rfl rfl (by intro d; simp only [Op.equalIn, Sem.run_bind, run_underlying hu, Result.andThen_ok, Sem.run_pure]; try rfl)
         | exact neq_run rfl rfl (by intro d; simp only [Op.equalIn, Sem.run_bind, run_underlying hu, Result.andThen_ok, Sem.run_pure]; try rfl)
         | exact neq_run (b:=false) rfl rfl (by intro d; simp only [Op.equalIn, Sem.run_bind, run_underlying hu, Result.andThen_ok, Sem.run_pure]; try rfl)
         | exact neq_run (b:=true) rfl rfl (by intro d; simp only [Op.equalIn, Sem.run_bind, run_underlying hu, Result.andThen_ok, Sem.run_pure]; try rfl)
   | _ => simp [abin, abinI, abinS, abinV] at h
 | slice => cases hy with
   | nilSlice =>
     dsimp only [abin, abinV] at h
     split at h <;> first | cases h | skip
     all_goals
       rename_i hu
       refine ⟨?_, rfl⟩
       first
         | exact eql_run rfl rfl (by intro d; simp only [Op.equalIn, Sem.run_bind, run_underlying hu, Result.andThen_ok, Sem.run_pure]; try rfl)
         | exact neq_run rfl rfl (by intro d; simp only [Op.equalIn, Sem.run_bind, run_underlying hu, Result.andThen_ok, Sem.run_pure]; try rfl)
         | exact neq_run (b:=false) rfl rfl (by intro d; simp only [Op.equalIn, Sem.run_bind, run_underlying hu, Result.andThen_ok, Sem.run_pure]; try rfl)
         | exact neq_run (b:=true) rfl rfl (by intro d; simp only [Op.equalIn, Sem.run_bind, run_underlying hu, Result.andThen_ok, Sem.run_pure]; try rfl)
   | _ => simp [abin, abinI, abinS, abinV] at h
 | nilMap => cases hy with
   | nilMap =>
     dsimp only [abin, abinV] at h
     split at h <;> first | cases h | skip
     all_goals
       rename_i hu
       refine ⟨?_, rfl⟩
       first
         | exact eql_run rfl rfl (by intro d; simp only [Op.equalIn, Sem.run_bind, run_underlying hu, Result.andThen_ok, Sem.run_pure]; try rfl)
         | exact neq_run rfl rfl (by intro d; simp only [Op.equalIn, Sem.run_bind, run_underlying hu, Result.andThen_ok, Sem.run_pure]; try rfl)
         | exact neq_run (b:=false) rfl rfl (by intro d; simp only [Op.equalIn, Sem.run_bind, run_underlying hu, Result.andThen_ok, Sem.run_pure]; try rfl)
         | exact neq_run (b:=true) rfl rfl (by intro d; simp only [Op.equalIn, Sem.run_bind, run_underlying hu, Result.andThen_ok, Sem.run_pure]; try rfl)
   | map =>
     dsimp only [abin, abinV] at h
     split at h <;> first | cases h | skip
     all_goals
       rename_i hu
       refine ⟨?_, rfl⟩
       first
         | exact eql_run rfl rfl (by intro d; simp only [Op.equalIn, Sem.run_bind, run_underlying hu, Result.andThen_ok, Sem.run_pure]; try rfl)
         | exact neq_run rfl rfl (by intro d; simp only [Op.equalIn, Sem.run_bind, run_underlying hu, Result.andThen_ok, Sem.run_pure]; try rfl)
         | exact neq_run (b:=false) rfl rfl (by intro d; simp only [Op.equalIn, Sem.run_bind, run_underlying hu, Result.andThen_ok, Sem.run_pure]; try rfl)
         | exact neq_run (b:=true) rfl rfl (by intro d; simp only [Op.equalIn, Sem.run_bind, run_underlying hu, Result.andThen_ok, Sem.run_pure]; try rfl)
   | _ => simp [abin, abinI, abinS, abinV] at h
 | map => cases hy with
   | nilMap =>
     dsimp only [abin, abinV] at h
     split at h <;> first | cases h | skip
     all_goals
       rename_i hu
       refine ⟨?_, rfl⟩
       first
         | exact eql_run rfl rfl (by intro d; simp only [Op.equalIn, Sem.run_bind, run_underlying hu, Result.andThen_ok, Sem.run_pure]; try rfl)
         | exact neq_run rfl rfl (by intro d; simp only [Op.equalIn, Sem.run_bind, run_underlying hu, Result.andThen_ok, Sem.run_pure]; try rfl)
         | exact neq_run (b:=false) rfl rfl (by intro d; simp only [Op.equalIn, Sem.run_bind, run_underlying hu, Result.andThen_ok, Sem.run_pure]; try rfl)
         | exact neq_run (b:=true) rfl rfl (by intro d; simp only [Op.equalIn, Sem.run_bind, run_underlying hu, Result.andThen_ok, Sem.run_pure]; try rfl)
   | _ => simp [abin, abinI, abinS, abinV] at h
 | nilFunc => cases hy with
   | func =>
     dsimp only [abin, abinV] at h
     split at h <;> first | cases h | skip
     all_goals
       rename_i hu
       refine ⟨?_, rfl⟩
       first
         | exact eql_run rfl rfl (by intro d; simp only [Op.equalIn, Sem.run_bind, run_underlying hu, Result.andThen_ok, Sem.run_pure]; try rfl)
         | exact neq_run rfl rfl (by intro d; simp only [Op.equalIn, Sem.run_bind, run_underlying hu, Result.andThen_ok, Sem.run_pure]; try rfl)
         | exact neq_run (b:=false) rfl rfl (by intro d; simp only [Op.equalIn, Sem.run_bind, run_underlying hu, Result.andThen_ok, Sem.run_pure]; try rfl)
         | exact neq_run (b:=true) rfl rfl (by intro d; simp only [Op.equalIn, Sem.run_bind, run_underlying hu, Result.andThen_ok, Sem.run_pure]; try rfl)
   | _ => simp [abin, abinI, abinS, abinV] at h
 | func => cases hy with
   | nilFunc =>
     dsimp only [abin, abinV] at h
     split at h <;> first | cases h | skip
     all_goals
       rename_i hu
       refine ⟨?_, rfl⟩
       first
         | exact eql_run rfl rfl (by intro d; simp only [Op.equalIn, Sem.run_bind, run_underlying hu, Result.andThen_ok, Sem.run_pure]; try rfl)
         | exact neq_run rfl rfl (by intro d; simp only [Op.equalIn, Sem.run_bind, run_underlying hu, Result.andThen_ok, Sem.run_pure]; try rfl)
         | exact neq_run (b:=false) rfl rfl (by intro d; simp only [Op.equalIn, Sem.run_bind, run_underlying hu, Result.andThen_ok, Sem.run_pure]; try rfl)
         | exact neq_run (b:=true) rfl rfl (by intro d; simp only [Op.equalIn, Sem.run_bind, run_underlying hu, Result.andThen_ok, Sem.run_pure]; try rfl)
   | _ => simp [abin, abinI, abinS, abinV] at h
 | iface => cases hy with
   | nilIface =>
     dsimp only [abin, abinV] at h
     split at h <;> first | cases h | skip
     all_goals
       rename_i hu
       refine ⟨?_, rfl⟩
       first
         | exact eql_run rfl rfl (by intro d; simp only [Op.equalIn, Sem.run_bind, run_underlying hu, Result.andThen_ok, Sem.run_pure]; try rfl)
         | exact neq_run rfl rfl (by intro d; simp only [Op.equalIn, Sem.run_bind, run_underlying hu, Result.andThen_ok, Sem.run_pure]; try rfl)
         | exact neq_run (b:=false) rfl rfl (by intro d; simp only [Op.equalIn, Sem.run_bind, run_underlying hu, Result.andThen_ok, Sem.run_pure]; try rfl)
         | exact neq_run (b:=true) rfl rfl (by intro d; simp only [Op.equalIn, Sem.run_bind, run_underlying hu, Result.andThen_ok, Sem.run_pure]; try rfl)
   | _ => simp [abin, abinI, abinS, abinV] at h
 | nilIface => cases hy with
   | iface =>
     dsimp only [abin, abinV] at h
     split at h <;> first | cases h | skip
     all_goals
       rename_i hu
       refine ⟨?_, rfl⟩
       first
         | exact eql_run rfl rfl (by intro d; simp only [Op.equalIn, Sem.run_bind, run_underlying hu, Result.andThen_ok, Sem.run_pure]; try rfl)
         | exact neq_run rfl rfl (by intro d; simp only [Op.equalIn, Sem.run_bind, run_underlying hu, Result.andThen_ok, Sem.run_pure]; try rfl)
         | exact neq_run (b:=false) rfl rfl (by intro d; simp only [Op.equalIn, Sem.run_bind, run_underlying hu, Result.andThen_ok, Sem.run_pure]; try rfl)
         | exact neq_run (b:=true) rfl rfl (by intro d; simp only [Op.equalIn, Sem.run_bind, run_underlying hu, Result.andThen_ok, Sem.run_pure]; try rfl)
   | nilIface =>
     dsimp only [abin, abinV] at h
     split at h <;> first | cases h | skip
     all_goals
       rename_i hc hu
       refine ⟨?_, rfl⟩
       have hg : ∀ o, (eqGuard o t xo yo .nilIface .nilIface).run P w = .ok () w:=by
         intro o
         cases xo <;> cases yo <;> first | (cases o <;> rfl) | (cases hc)
       first
         | exact eql_run (hg _) rfl (by intro d; simp only [Op.equalIn, Sem.run_bind, run_underlying hu, Result.andThen_ok, Sem.run_pure]; try rfl)
         | exact neq_run (hg _) rfl (by intro d; simp only [Op.equalIn, Sem.run_bind, run_underlying hu, Result.andThen_ok, Sem.run_pure]; try rfl)
         | exact neq_run (b:=false) (hg _) rfl (by intro d; simp only [Op.equalIn, Sem.run_bind, run_underlying hu, Result.andThen_ok, Sem.run_pure]; try rfl)
         | exact neq_run (b:=true) (hg _) rfl (by intro d; simp only [Op.equalIn, Sem.run_bind, run_underlying hu, Result.andThen_ok, Sem.run_pure]; try rfl)
   | _ => simp [abin, abinI, abinS, abinV] at h
 | _ => simp [abin, abinI, abinS, abinV] at h
noncomputable def bitsOp (op : BinOp) (m r : Nat) (k : IntKind) (c : Int) : Option Value :=
 match op, k, c with
 | .and, .i64, .ofNat c => if c < 2 ^ m then some (.int .i64 (.ofNat (Nat.land r c))) else none
 | .shr, _, .ofNat i => if i ≤ m then some (.complex .f64 (m - i) (Nat.shiftRight r i)) else none
 | _, _, _ => none
noncomputable def abin2 (P : Program) (op : BinOp) (t : TypeId) (xo yo : Operand) (x y : Value) : Option Value :=
 match x with
 | .complex .f64 m r => match y with
   | .int k c => bitsOp op m r k c
   | _ => none
 | x => abin P op t xo yo x y
theorem land_low {a c m : Nat} (hc : c < 2 ^ m) : a &&& c = (a % 2 ^ m) &&& c:=by
 apply Nat.eq_of_testBit_eq
 intro i
 rw [Nat.testBit_and, Nat.testBit_and, Nat.testBit_mod_two_pow]
 by_cases h : i < m
 · simp [h]
 · have : c.testBit i = false:=Nat.testBit_lt_two_pow (Nat.lt_of_lt_of_le hc (Nat.pow_le_pow_right (by decide) (by omega)))
   rw [this]
   simp
theorem bits_and {z : Int} {m r c : Nat} (hm : m ≤ 63) (h : z % ((2 ^ m : Nat) : Int) = (r : Int)) (hc : c < 2 ^ m) : IntKind.i64.wrap (((BitVec.ofInt IntKind.i64.bits z) &&& (BitVec.ofInt IntKind.i64.bits (Int.ofNat c))).toNat : Int) = Int.ofNat (Nat.land r c):=by
 have hp : 2 ^ m ≤ 2 ^ 63:=Nat.pow_le_pow_right (by decide) hm
 have e1 : (BitVec.ofInt IntKind.i64.bits (Int.ofNat c)).toNat = c:=by
   rw [BitVec.toNat_ofInt]
   show ((c : Int) % (2 ^ 64 : Nat)).toNat = c
   omega
 have e2 : (BitVec.ofInt IntKind.i64.bits z).toNat % 2 ^ m = r:=by
   rw [BitVec.toNat_ofInt]
   have hd : (((2 ^ m : Nat) : Int)) ∣ ((2 ^ 64 : Nat) : Int):=by
     exact Int.ofNat_dvd.2 (Nat.pow_dvd_pow 2 (by omega))
   have h2 : (z % ((2 ^ 64 : Nat) : Int)) % ((2 ^ m : Nat) : Int) = (r : Int):=by
     rw [Int.emod_emod_of_dvd z hd, h]
   have h3 : 0 ≤ z % ((2 ^ 64 : Nat) : Int):=Int.emod_nonneg _ (by decide)
   show (z % ((2 ^ 64 : Nat) : Int)).toNat % 2 ^ m = r
   have h4 : (((z % ((2 ^ 64 : Nat) : Int)).toNat : Nat) : Int) = z % ((2 ^ 64 : Nat) : Int):=Int.toNat_of_nonneg h3
   have h5 : ((((z % ((2 ^ 64 : Nat) : Int)).toNat % 2 ^ m : Nat)) : Int) = (r : Int):=by
     rw [Int.natCast_emod, h4]
     exact h2
   exact Int.ofNat.inj h5
 rw [BitVec.toNat_and, e1, land_low hc, e2]
 have hle : r &&& c ≤ c:=Nat.and_le_right
 show IntKind.i64.wrap ((r &&& c : Nat) : Int) = ((r &&& c : Nat) : Int)
 generalize r &&& c = q at hle
 simp only [IntKind.wrap, IntKind.bits, IntKind.signed]
 simp
 omega
theorem bits_shr {z : Int} {m r i : Nat} (h : z % ((2 ^ m : Nat) : Int) = (r : Int)) (hi : i ≤ m) : (z.fdiv (2 ^ i)) % ((2 ^ (m - i) : Nat) : Int) = ((Nat.shiftRight r i : Nat) : Int):=by
 have hp : (0 : Int) ≤ 2 ^ i:=Int.le_of_lt (Int.pow_pos (by decide))
 have hsr : Nat.shiftRight r i = r / 2 ^ i:=Nat.shiftRight_eq_div_pow r i
 rw [Int.fdiv_eq_ediv_of_nonneg _ hp, hsr]
 have hpow : ((2 ^ m : Nat) : Int) = 2 ^ i * ((2 ^ (m - i) : Nat) : Int):=by
   have : m = i + (m - i):=by omega
   conv => lhs; rw [this, Nat.pow_add]
   simp
 have hz : z = (r : Int) + 2 ^ i * (((2 ^ (m - i) : Nat) : Int) * (z / ((2 ^ m : Nat) : Int))):=by
   have:=Int.emod_add_mul_ediv z ((2 ^ m : Nat) : Int)
   rw [h] at this
   rw [← Int.mul_assoc, ← hpow]
   exact this.symm
 have hne : (2 ^ i : Int) ≠ 0:=Int.ne_of_gt (Int.pow_pos (by decide))
 have hdiv : z / 2 ^ i = (r : Int) / 2 ^ i + ((2 ^ (m - i) : Nat) : Int) * (z / ((2 ^ m : Nat) : Int)):=by
   conv => lhs; rw [hz]
   rw [Int.add_mul_ediv_left _ _ hne]
 rw [hdiv, Int.add_mul_emod_self_left]
 have hr : r < 2 ^ m:=by
   have:=Int.emod_lt_of_pos z (b:=((2 ^ m : Nat) : Int)) (Int.ofNat_lt.2 (Nat.two_pow_pos m))
   rw [h] at this
   exact Int.ofNat_lt.1 this
 have hlt : r / 2 ^ i < 2 ^ (m - i):=by
   rw [Nat.div_lt_iff_lt_mul (Nat.two_pow_pos i), ← Nat.pow_add]
   rw [show m - i + i = m by omega]
   exact hr
 have hcast : ((r / 2 ^ i : Nat) : Int) = (r : Int) / 2 ^ i:=by simp
 rw [← hcast, ← Int.natCast_emod, Nat.mod_eq_of_lt hlt]
theorem abin2_ok {op : BinOp} {t : TypeId} {xo yo : Operand} {x y x' y' v : Value} (h : abin2 P op t xo yo x y = some v) (hx : VRel ι x x') (hy : VRel ι y y') (w : World) :
   ∃ v', (do eqGuard op t xo yo x' y'; binOp op t x' y').run P w = .ok v' w ∧ VRel ι v v':=by
 unfold abin2 at h
 split at h
 · rename_i m r
   split at h
   rotate_left
   · cases h
   rename_i k c
   cases hx with
   | bits _ _ z hm hz =>
   cases hy with
   | int _ _ =>
   unfold bitsOp at h
   split at h
   · rename_i c
     split at h
     · rename_i hc
       cases h
       refine ⟨_, ?_, .int _ _⟩
       rw [← bits_and hm hz hc]
       rfl
     · cases h
   · rename_i i
     split at h
     · rename_i hi
       cases h
       refine ⟨.int .i64 (z.fdiv (2 ^ i)), ?_, .bits _ _ _ (by omega) (bits_shr hz hi)⟩
       have hn : ¬ (Int.ofNat i < 0):=by simp
       have hmin : min (Int.ofNat i).toNat IntKind.i64.bits = i:=by
         show min i 64 = i
         omega
       rw [Sem.run_bind, show (eqGuard .shr t xo yo (.int .i64 z) (.int _ (Int.ofNat i))).run P w = .ok () w from rfl, Result.andThen_ok]
       simp only [binOp, Op.shift]
       rw [if_neg hn, hmin]
       rfl
     · cases h
   · cases h
 · obtain ⟨h1, h2⟩:=abin_ok h hx hy w
   exact ⟨v, h1, VRel.of_flat h2⟩
end
end Go.Proofs.YtacknhbgfijkcaaGreatDoor.Abs
end
section
/- The engine, part 4: what operations do to the sketch of memory. -/
namespace Go.Proofs.YtacknhbgfijkcaaGreatDoor.Abs
open Go Go.RowKit
structure Hp where
 t : Tr AObj
 n : Nat
theorem run_typeInfo {P : Program} {t : TypeId} {i : TypeInfo} (h : P.info? t = some i) (w : World) : (typeInfo t).run P w = .ok i w:=by
 simp [typeInfo, h]
theorem run_sizeOf {P : Program} {t : TypeId} {i : TypeInfo} (h : P.info? t = some i) (w : World) : (sizeOf t).run P w = .ok i.size w:=by
 simp [sizeOf, run_typeInfo h]
theorem run_zero {P : Program} {t : TypeId} {i : TypeInfo} {z : Value} (h : P.info? t = some i) (hz : i.zero = some z) (w : World) : (zeroValue t).run P w = .ok z w:=by
 simp [zeroValue, run_typeInfo h, hz]
noncomputable def aggT : TypeDesc → Bool
 | .struct _ => true
 | .array _ _ => true
 | _ => false
theorem run_isAgg {P : Program} {t : TypeId} {d : TypeDesc} (h : P.underlying t = some d) (w : World) : (isAgg t).run P w = .ok (aggT d) w:=by
 simp only [isAgg, Sem.run_bind, run_underlying h, Result.andThen_ok]
 cases d <;> rfl
section
variable {P : Program} {base : Nat} {w0 : Start} {ι : Nat → Option Loc} {H : Nat → Option AObj} {w w' : World}
theorem Inv.cells_at (h : Inv P base w0 ι H w) {id : Nat} {i : Loc} {cs : List Value} {e : TypeId} {wr : Bool} (hi : ι id = some i) (ho : H id = some (.cells cs e wr)) :
   ∃ arr fz, w.heap[i.rb]? = some (.cells arr e fz) ∧ arr.size = i.tot ∧ i.δ + cs.length ≤ i.tot ∧ szD P e = i.es ∧ (∀ (j : Nat) (c : Value), cs[j]? = some c → ∃ v, arr[i.δ + j]? = some v ∧ VRel ι c v) ∧
     (wr = true → base ≤ i.rb ∧ ∀ o, o < i.tot → ¬ (fz.1 ≤ o ∧ o < fz.2)):=by
 obtain ⟨arr, fz, h1, h2, h3, h4, h5, h6⟩:=h.obj id i _ hi ho
 exact ⟨arr, fz, h1, h2, h3, h5, h4, h6⟩
theorem rel_extract {i : Loc} {cs : List Value} {arr : Array Value} (hl : i.δ + cs.length ≤ arr.size) (h4 : ∀ (j : Nat) (c : Value), cs[j]? = some c → ∃ v, arr[i.δ + j]? = some v ∧ VRel ι c v) {off n : Nat} (hn : off + n ≤ cs.length) :
   ARel ι ((cs.drop off).take n).toArray (arr.extract (i.δ + off) (i.δ + off + n)):=by
 refine ARel.of_get (by simp; omega) fun j v hj => ?_
 simp only [List.getElem?_toArray, List.getElem?_take, List.getElem?_drop] at hj
 split at hj
 · rename_i hlt
   obtain ⟨v', a, b⟩:=h4 _ _ hj
   refine ⟨v', ?_, b⟩
   rw [Array.getElem?_extract, if_pos (by omega), ← a, Nat.add_assoc]
 · cases hj
noncomputable def aload (P : Program) (t : TypeId) (h : Hp) : Value → Option Value
 | .pointer (some ⟨id, off, none⟩) =>
   match h.t.get id, P.underlying t with
   | some (.cells cs _ _), some d =>
     if aggT d then
       match P.info? t with
       | some inf => if off + inf.size ≤ cs.length then some (.agg ((cs.drop off).take inf.size).toArray) else none
       | none => none
     else cs[off]?
   | _, _ => none
 | _ => none
theorem aload_ok {h : Hp} {t : TypeId} {p p' v : Value} (hI : Inv P base w0 ι h.t.get w) (hp : VRel ι p p') (ha : aload P t h p = some v) : ∃ v', (Instr.loadAt t p').run P w = .ok v' w ∧ VRel ι v v':=by
 unfold aload at ha
 split at ha
 · rename_i id off
   cases hp with
   | ptr _ _ i hi =>
   split at ha
   · rename_i cs e wr d hg hu
     obtain ⟨arr, fz, h1, h2, h3, h5, h4, _⟩:=hI.cells_at hi hg
     split at ha
     · rename_i hd
       split at ha
       · rename_i inf hinf
         split at ha
         · rename_i hle
           cases ha
           refine ⟨.agg (arr.extract (i.δ + off) (i.δ + off + inf.size)), ?_, ?_⟩
           · simp only [Instr.loadAt, loadVar, Sem.run_bind, run_isAgg hu, hd, if_true, Result.andThen_ok, run_sizeOf hinf, Instr.sureAddr, Sem.run_pure]
             rw [loadCells_run P h1 (by omega)]
             rfl
           · have:=rel_extract (by omega) h4 hle
             exact .agg _ _ this.1 this.2
         · cases ha
       · cases ha
     · rename_i hd
       obtain ⟨v', a, b⟩:=h4 _ _ ha
       refine ⟨v', ?_, b⟩
       simp only [Instr.loadAt, loadVar, Sem.run_bind, run_isAgg hu, Instr.sureAddr, Sem.run_pure, Result.andThen_ok, Bool.eq_false_iff.2 hd, if_false, Bool.false_eq_true]
       rw [run_load, cell_of h1, a]
   · cases ha
 · cases ha
noncomputable def over (cs : List Value) (off : Nat) (vs : List Value) : List Value:=cs.take off ++ vs ++ cs.drop (off + vs.length)
theorem over_length (cs : List Value) (off : Nat) (vs : List Value) (h : off + vs.length ≤ cs.length) : (over cs off vs).length = cs.length:=by
 simp [over]; omega
theorem over_get (cs : List Value) (off : Nat) (vs : List Value) (h : off + vs.length ≤ cs.length) (j : Nat) : (over cs off vs)[j]? = if off ≤ j ∧ j < off + vs.length then vs[j - off]? else cs[j]?:=by
 unfold over
 rw [List.append_assoc, List.getElem?_append]
 simp only [List.length_take]
 have hm : min off cs.length = off:=by omega
 rw [hm]
 by_cases h1 : j < off
 · rw [if_pos h1, if_neg (by omega), List.getElem?_take, if_pos h1]
 · rw [if_neg h1, List.getElem?_append]
   by_cases h2 : j - off < vs.length
   · rw [if_pos h2, if_pos (by omega)]
   · rw [if_neg h2, if_neg (by omega), List.getElem?_drop]
     congr 1
     omega
noncomputable def astore (P : Program) (t : TypeId) (h : Hp) (p v : Value) : Option Hp :=
 match p with
 | .pointer (some ⟨id, off, none⟩) =>
   match h.t.get id, P.info? t with
   | some (.cells cs e true), some inf =>
     if v.cells.size = inf.size ∧ off + inf.size ≤ cs.length ∧ v.cells.toList.all Value.oneCell' = true then some ⟨h.t.set id (some (.cells (over cs off v.cells.toList) e true)), h.n⟩ else none
   | _, _ => none
 | _ => none
theorem Inv.write (hI : Inv P base w0 ι H w) {id off : Nat} {i : Loc} {cs : List Value} {e : TypeId} (hi : ι id = some i) (hg : H id = some (.cells cs e true)) {vs vs' : Array Value} (hv : ARel ι vs vs') (hle : off + vs.size ≤ cs.length) (h1c : vs.toList.all Value.oneCell' = true) :
   ∃ w', (storeCells ⟨i.rb, i.δ + off, none⟩ vs'.toList).run P w = .ok () w' ∧ Inv P base w0 ι (fupd H id (some (.cells (over cs off vs.toList) e true))) w':=by
 obtain ⟨arr, fz, h1, h2, h3, h5, h4, h6⟩:=hI.cells_at hi hg
 obtain ⟨hb, hfz⟩:=h6 rfl
 have hlen : vs'.toList.length = vs.size:=by rw [Array.length_toList, hv.1]
 have h1c' : ∀ v ∈ vs'.toList, v.oneCell' = true:=fun v hm => by
   obtain ⟨k, hk, rfl⟩:=List.getElem_of_mem hm
   have hk1 : k < vs.size:=by omega
   have hr:=hv.2 k hk1 (by omega)
   rw [Array.getElem_toList, hr.oneCell]
   exact List.all_eq_true.1 h1c _ (Array.mem_toList_iff.2 (Array.getElem_mem hk1))
 obtain ⟨w', arr', r1, r2, r3, r4, r5⟩:=storeCells_run P i.rb (i.δ + off) e fz vs'.toList 0 arr w h1 (by omega) (by rw [h2]; exact hfz) h1c'
 refine ⟨w', r1, hI.turn_block hi hg rfl hb r2 ⟨arr', fz, r3, by omega, by rw [over_length _ _ _ (by simpa using hle)]; exact h3, fun j c hc => ?_, h5, fun _ => ⟨hb, hfz⟩⟩ rfl⟩
 rw [over_get _ _ _ (by simpa using hle)] at hc
 rw [r5 (i.δ + j)]
 simp only [Array.length_toList, Nat.add_zero] at hc ⊢
 split at hc
 · rename_i hr
   rw [if_pos (by rw [← hv.1]; omega)]
   rw [Array.getElem?_toList] at hc
   obtain ⟨v', a, b⟩:=hv.get hc
   exact ⟨v', by rw [Array.getElem?_toList, ← a]; congr 1; omega, b⟩
 · rename_i hr
   rw [if_neg (by rw [← hv.1]; omega)]
   exact h4 j c hc
theorem astore_ok {h h' : Hp} {t : TypeId} {p p' v v' : Value} (hI : Inv P base w0 ι h.t.get w) (hp : VRel ι p p') (hv : VRel ι v v') (ha : astore P t h p v = some h') :
   ∃ w', (Instr.storeAt t p' v').run P w = .ok () w' ∧ Turn ι h.n h.t.get ι h'.n h'.t.get ∧ Inv P base w0 ι h'.t.get w':=by
 unfold astore at ha
 split at ha
 · rename_i id off
   cases hp with
   | ptr _ _ i hi =>
   split at ha
   · rename_i cs e inf hg hinf
     split at ha
     · rename_i hc
       obtain ⟨c1, c2, c3⟩:=hc
       cases ha
       have hvc:=hv.cells
       have hle2 : off + v.cells.size ≤ cs.length:=by omega
       obtain ⟨w', r1, r2⟩:=hI.write hi hg hvc hle2 c3
       refine ⟨w', ?_, ?_, ?_⟩
       · simp only [Instr.storeAt, storeVar, Sem.run_bind, Instr.sureAddr, Sem.run_pure, Result.andThen_ok, run_sizeOf hinf]
         rw [if_neg (by rw [← hvc.1]; exact fun x => x c1)]
         exact r1
       · rw [Tr.get_set_fun]; exact Turn.at_block _ hi
       · rw [Tr.get_set_fun]; exact r2
     · cases ha
   · cases ha
 · cases ha
noncomputable def abox (P : Program) (e : TypeId) (h : Hp) (v : Value) : Option (Value × Hp) :=
 match P.info? e with
 | some _ => some (.pointer (some ⟨h.n, 0, none⟩), ⟨h.t.set h.n (some (.cells v.cells.toList e true)), h.n + 1⟩)
 | none => none
theorem newRow_ok {h : Hp} {e : TypeId} {inf : TypeInfo} (hI : Inv P base w0 ι h.t.get w) (hn : ι h.n = none) (hgl : P.globals.size ≤ h.n) (hinf : P.info? e = some inf) {cs cs' : Array Value} (hc : ARel ι cs cs') :
   ∃ ι', (newRow e cs').run P w = .ok ⟨w.heap.size, 0, none⟩ (w.alloc (.cells cs' e)) ∧ ι' h.n = some ⟨w.heap.size, 0, cs'.size, inf.size⟩ ∧ Turn ι h.n h.t.get ι' (h.n + 1) (h.t.set h.n (some (.cells cs.toList e true))).get ∧
     Inv P base w0 ι' (h.t.set h.n (some (.cells cs.toList e true))).get (w.alloc (.cells cs' e)):=by
 refine ⟨fupd ι h.n (some ⟨w.heap.size, 0, cs'.size, inf.size⟩), rfl, fupd_eq _ _ _, ?_, ?_⟩
 · rw [Tr.get_set_fun]; exact Turn.new hn _ _
 · rw [Tr.get_set_fun]
   refine hI.new_cells hn hgl (by unfold szD; rw [hinf]) cs' (0, 0) (fun o _ x => by omega) cs.toList (by simp [hc.1]) (fun j c hj => ?_)
   rw [Array.getElem?_toList] at hj
   exact hc.get hj
theorem abox_ok {h h' : Hp} {e : TypeId} {v v' p : Value} (hI : Inv P base w0 ι h.t.get w) (hn : ∀ id, h.n ≤ id → id < h'.n → ι id = none) (hgl : P.globals.size ≤ h.n) (hv : VRel ι v v') (ha : abox P e h v = some (p, h')) :
   ∃ p' w' ι', (Instr.box e v').run P w = .ok p' w' ∧ Turn ι h.n h.t.get ι' h'.n h'.t.get ∧ Inv P base w0 ι' h'.t.get w' ∧ VRel ι' p p':=by
 unfold abox at ha
 split at ha
 · rename_i inf hinf
   cases ha
   obtain ⟨ι', r1, r2, r3, r4⟩:=newRow_ok hI (hn h.n (Nat.le_refl _) (Nat.lt_succ_self _)) hgl hinf hv.cells
   refine ⟨.pointer (some ⟨w.heap.size, 0, none⟩), _, ι', ?_, r3, r4, .ptr h.n 0 _ r2⟩
   simp only [Instr.box, newVar, Sem.run_bind, r1, Result.andThen_ok, Sem.run_pure]
 · cases ha
noncomputable def azero (P : Program) (e : TypeId) : Option Value :=
 match P.info? e with
 | some inf => match inf.zero with
   | some z => if flat z then some z else none
   | none => none
 | none => none
theorem azero_ok {e : TypeId} {z : Value} (ha : azero P e = some z) (w : World) : (zeroValue e).run P w = .ok z w ∧ flat z = true ∧ ∃ inf, P.info? e = some inf:=by
 unfold azero at ha
 split at ha
 · rename_i inf hinf
   split at ha
   · rename_i z' hz
     split at ha
     · rename_i hf
       cases ha
       exact ⟨run_zero hinf hz w, hf, inf, hinf⟩
     · cases ha
   · cases ha
 · cases ha
theorem zip_rel (off : Nat) : ∀ (l l' : List Value) (k : Nat) (cs cs' : Array Value), l.length = l'.length → (∀ (j : Nat) (c : Value), l[j]? = some c → ∃ v, l'[j]? = some v ∧ VRel ι c v) → ARel ι cs cs' →
   ARel ι ((l.zipIdx k).foldl (fun cs (x : Value × Nat) => cs.setIfInBounds (off + x.2) x.1) cs) ((l'.zipIdx k).foldl (fun cs (x : Value × Nat) => cs.setIfInBounds (off + x.2) x.1) cs')
 | [], [], k, cs, cs', _, _, h => h
 | [], _ :: _, k, cs, cs', hl, _, h => by simp at hl
 | _ :: _, [], k, cs, cs', hl, _, h => by simp at hl
 | a :: l, b :: l', k, cs, cs', hl, hr, h => by
   simp only [List.zipIdx_cons, List.foldl_cons]
   refine zip_rel off l l' (k + 1) _ _ (by simpa using hl) (fun j c hj => by simpa using hr (j + 1) c (by simpa using hj)) ?_
   obtain ⟨v, hv, hab⟩:=hr 0 a rfl
   simp at hv
   subst hv
   refine ARel.of_get (by simp [h.1]) fun j v hj => ?_
   rw [Array.getElem?_setIfInBounds] at hj ⊢
   rw [← h.1]
   split at hj
   · rename_i e
     split at hj
     · rename_i h3; cases hj; rw [if_pos e, if_pos h3]; exact ⟨b, rfl, hab⟩
     · cases hj
   · rename_i e
     rw [if_neg e]
     exact h.get hj
theorem fill_rel (place : Nat → Option (Nat × Nat)) : ∀ (ps ps' : List (Nat × Value)) (cs cs' r : Array Value), ps.length = ps'.length → (∀ (j : Nat) (p : Nat × Value), ps[j]? = some p → ∃ p', ps'[j]? = some p' ∧ p'.1 = p.1 ∧ VRel ι p.2 p'.2) → ARel ι cs cs' →
   Instr.fill place cs ps = some r → ∃ r', Instr.fill place cs' ps' = some r' ∧ ARel ι r r'
 | [], [], cs, cs', r, _, _, h, hf => by
   simp only [Instr.fill] at hf ⊢
   cases hf
   exact ⟨_, rfl, h⟩
 | [], _ :: _, cs, cs', r, hl, _, h, hf => by simp at hl
 | _ :: _, [], cs, cs', r, hl, _, h, hf => by simp at hl
 | (i, v) :: ps, (i', v') :: ps', cs, cs', r, hl, hr, h, hf => by
   obtain ⟨p, hp1, hp2, hp3⟩:=hr 0 _ rfl
   simp at hp1
   subst hp1
   simp only at hp2 hp3
   subst hp2
   unfold Instr.fill at hf ⊢
   cases hpl : place i' with
   | none => rw [hpl] at hf; cases hf
   | some q =>
     obtain ⟨off, size⟩:=q
     rw [hpl] at hf
     simp only at hf ⊢
     have hc:=hp3.cells
     split at hf
     · cases hf
     · rename_i hcond
       rw [if_neg (by rw [← hc.1, ← h.1]; exact hcond)]
       refine fill_rel place ps ps' _ _ r (by simpa using hl) (fun j p hj => by simpa using hr (j + 1) p (by simpa using hj)) ?_ hf
       have:=zip_rel off v.cells.toList v'.cells.toList 0 cs cs' (by simp [hc.1]) (fun j c hj => by rw [Array.getElem?_toList] at hj ⊢; exact hc.get hj) h
       rw [← Array.toList_zipIdx, ← Array.toList_zipIdx, Array.foldl_toList, Array.foldl_toList] at this
       exact this
end
end Go.Proofs.YtacknhbgfijkcaaGreatDoor.Abs
end
section
/- The engine, part 5: what is built, taken apart, cut, indexed. -/
namespace Go.Proofs.YtacknhbgfijkcaaGreatDoor.Abs
open Go Go.RowKit
section
variable {P : Program} {base : Nat} {w0 : Start} {ι : Nat → Option Loc} {H : Nat → Option AObj} {w w' : World}
theorem run_mapM_list {α β : Type} (f : α → Sem β) (g : α → β) (w : World) : ∀ l : List α, (∀ x ∈ l, (f x).run P w = .ok (g x) w) → (l.mapM f).run P w = .ok (l.map g) w
 | [], _ => by simp
 | x :: l, h => by
   rw [List.mapM_cons]
   simp only [Sem.run_bind, h x (by simp), Result.andThen_ok, run_mapM_list f g w l (fun y hy => h y (by simp [hy])), Sem.run_pure, List.map_cons]
theorem run_mapM {α β : Type} (f : α → Sem β) (g : α → β) (w : World) (l : Array α) (h : ∀ x ∈ l, (f x).run P w = .ok (g x) w) : (l.mapM f).run P w = .ok (l.map g) w:=by
 rw [Array.mapM_eq_mapM_toList, Sem.run_map, run_mapM_list f g w l.toList (fun x hx => h x (Array.mem_toList_iff.1 hx))]
 simp only [Result.andThen_ok]
 congr 1
 apply Array.toList_inj.1
 simp
noncomputable def places (P : Program) (fields : Array Field) (i : Nat) : Option (Nat × Nat) :=
 match fields[i]? with
 | some f => some (f.offset, szD P f.type)
 | none => none
noncomputable def abuild (P : Program) (t : TypeId) (parts : List (Nat × Value)) : Option Value :=
 match azero P t, P.underlying t with
 | some z, some (.struct fields) =>
   if fields.toList.all fun f => (P.info? f.type).isSome then
     match Instr.fill (places P fields) z.cells parts with
     | some cs => some (.agg cs)
     | none => none
   else none
 | some z, some (.array _ e) =>
   match P.info? e with
   | some inf =>
     match Instr.fill (fun i => some (i * inf.size, inf.size)) z.cells parts with
     | some cs => some (.agg cs)
     | none => none
   | none => none
 | _, _ => none
theorem abuild_ok {t : TypeId} {parts parts' : List (Nat × Value)} {v : Value} (hl : parts.length = parts'.length) (hr : ∀ (j : Nat) (p : Nat × Value), parts[j]? = some p → ∃ p', parts'[j]? = some p' ∧ p'.1 = p.1 ∧ VRel ι p.2 p'.2) (ha : abuild P t parts = some v) (w : World) :
   ∃ v', (Instr.build t parts'.toArray).run P w = .ok v' w ∧ VRel ι v v':=by
 unfold abuild at ha
 split at ha
 · rename_i z fields hz hu
   split at ha
   · rename_i hall
     split at ha
     · rename_i cs hf
       cases ha
       obtain ⟨z1, z2, _⟩:=azero_ok hz w
       have hzr : ARel ι z.cells z.cells:=(VRel.of_flat z2).cells
       obtain ⟨r', f1, f2⟩:=fill_rel _ parts parts' _ _ _ hl hr hzr hf
       refine ⟨.agg r', ?_, .agg _ _ f2.1 f2.2⟩
       have hm : (fields.mapM fun f => (do pure (f.offset, ← sizeOf f.type) : Sem (Nat × Nat))).run P w = .ok (fields.map fun f => (f.offset, szD P f.type)) w:=by
         refine run_mapM _ _ w _ fun f hf => ?_
         have:=List.all_eq_true.1 hall f (Array.mem_toList_iff.2 hf)
         obtain ⟨inf, hinf⟩:=Option.isSome_iff_exists.1 this
         simp only [Sem.run_bind, run_sizeOf hinf, Result.andThen_ok, Sem.run_pure]
         simp [szD, hinf]
       have hp : (fun i => (fields.map fun f => (f.offset, szD P f.type))[i]?) = places P fields:=by
         funext i
         unfold places
         rw [Array.getElem?_map]
         cases fields[i]? <;> rfl
       simp only [Instr.build, Sem.run_bind, z1, Result.andThen_ok, run_underlying hu, hm]
       rw [hp, f1]
       rfl
     · cases ha
   · cases ha
 · rename_i z n e hz hu
   split at ha
   · rename_i inf hinf
     split at ha
     · rename_i cs hf
       cases ha
       obtain ⟨z1, z2, _⟩:=azero_ok hz w
       have hzr : ARel ι z.cells z.cells:=(VRel.of_flat z2).cells
       obtain ⟨r', f1, f2⟩:=fill_rel _ parts parts' _ _ _ hl hr hzr hf
       refine ⟨.agg r', ?_, .agg _ _ f2.1 f2.2⟩
       simp only [Instr.build, Sem.run_bind, z1, Result.andThen_ok, run_underlying hu, run_sizeOf hinf]
       rw [f1]
       rfl
     · cases ha
   · cases ha
 · cases ha
noncomputable def zeros (z : Array Value) (n : Nat) : Array Value:=(Array.range n).map (fun i => z[i % z.size]!)
theorem zeros_rel {z : Value} (hz : flat z = true) (n : Nat) (hn : n = 0 ∨ 0 < z.cells.size) : ARel ι (zeros z.cells n) (zeros z.cells n):=by
 have hc : ARel ι z.cells z.cells:=(VRel.of_flat hz).cells
 refine ⟨rfl, fun i a b => ?_⟩
 have ha : i < n:=by simpa [zeros] using a
 have hm : i % z.cells.size < z.cells.size:=Nat.mod_lt _ (by omega)
 have : (zeros z.cells n)[i] = z.cells[i % z.cells.size]:=by
   simp only [zeros, Array.getElem_map, Array.getElem_range]
   rw [getElem!_pos z.cells _ hm]
 rw [this]
 exact hc.2 _ hm hm
noncomputable def abuildSlice (P : Program) (t : TypeId) (len : Nat) (parts : List (Nat × Value)) (h : Hp) : Option (Value × Hp) :=
 match P.underlying t with
 | some (.slice e) =>
   match P.info? e, azero P e with
   | some inf, some z =>
     if len * inf.size ≤ 16777216 ∧ 0 < z.cells.size then
       match Instr.fill (fun i => some (i * inf.size, inf.size)) (zeros z.cells (len * inf.size)) parts with
       | some cs => if cs.size = len * inf.size then some (.slice (some ⟨h.n, 0, none⟩) len (len + 1), ⟨h.t.set h.n (some (.cells cs.toList e true)), h.n + 1⟩) else none
       | none => none
     else none
   | _, _ => none
 | _ => none
theorem abuildSlice_ok {h h' : Hp} {t : TypeId} {len : Nat} {parts parts' : List (Nat × Value)} {v : Value} (hI : Inv P base w0 ι h.t.get w) (hn : ∀ id, h.n ≤ id → id < h'.n → ι id = none) (hgl : P.globals.size ≤ h.n) (hl : parts.length = parts'.length)
   (hr : ∀ (j : Nat) (p : Nat × Value), parts[j]? = some p → ∃ p', parts'[j]? = some p' ∧ p'.1 = p.1 ∧ VRel ι p.2 p'.2) (ha : abuildSlice P t len parts h = some (v, h')) :
   ∃ v' w' ι', (Instr.buildSlice t len parts'.toArray).run P w = .ok v' w' ∧ Turn ι h.n h.t.get ι' h'.n h'.t.get ∧ Inv P base w0 ι' h'.t.get w' ∧ VRel ι' v v':=by
 unfold abuildSlice at ha
 split at ha
 · rename_i e hu
   split at ha
   · rename_i inf z hinf hz
     split at ha
     · rename_i hc
       split at ha
       · rename_i cs hf
         split at ha
         · rename_i hsz
           cases ha
           obtain ⟨z1, z2, _⟩:=azero_ok hz w
           obtain ⟨r', f1, f2⟩:=fill_rel _ parts parts' _ _ _ hl hr (zeros_rel (ι:=ι) z2 (len * inf.size) (.inr hc.2)) hf
           obtain ⟨ι', r1, r2, r3, r4⟩:=newRow_ok hI (hn h.n (Nat.le_refl _) (Nat.lt_succ_self _)) hgl hinf f2
           refine ⟨.slice (some ⟨w.heap.size, 0, none⟩) len len, _, ι', ?_, r3, r4, .slice h.n 0 len (len + 1) len _ _ r2 (Nat.le_refl _) (.inr rfl) (.inl ⟨rfl, by simp only; rw [← f2.1, hsz]; omega⟩)⟩
           simp only [Instr.buildSlice, Sem.run_bind, run_underlying hu, Result.andThen_ok, run_sizeOf hinf]
           rw [if_neg (show ¬ len * inf.size > 2 ^ 24 by omega)]
           by_cases h0 : len * inf.size = 0
           · rw [if_pos h0]
             have hzs : (Array.range (len * inf.size)).map (fun i => (#[] : Array Value)[i % (#[] : Array Value).size]!) = zeros z.cells (len * inf.size):=by
               simp [h0, zeros]
             simp only [Sem.run_bind, Sem.run_pure, Result.andThen_ok]
             rw [hzs, f1]
             simp only [Sem.run_bind, r1, Result.andThen_ok, Sem.run_pure]
           · rw [if_neg h0]
             simp only [Sem.run_bind, z1, Sem.run_pure, Result.andThen_ok]
             rw [show (Array.range (len * inf.size)).map (fun i => z.cells[i % z.cells.size]!) = zeros z.cells (len * inf.size) from rfl, f1]
             simp only [Sem.run_bind, r1, Result.andThen_ok, Sem.run_pure]
         · cases ha
       · cases ha
     · cases ha
   · cases ha
 · cases ha
noncomputable def afieldAddr (P : Program) (s : TypeId) (f : Nat) : Value → Option Value
 | .pointer (some ⟨id, off, none⟩) =>
   match P.underlying s with
   | some (.struct fields) =>
     match fields[f]? with
     | some fd => if szD P fd.type = 0 then none else some (.pointer (some ⟨id, off + fd.offset, none⟩))
     | none => none
   | _ => none
 | _ => none
theorem szD_info {t : TypeId} (h : szD P t ≠ 0) : ∃ inf, P.info? t = some inf ∧ inf.size = szD P t:=by
 unfold szD at *
 cases hi : P.info? t with
 | none => rw [hi] at h; exact absurd rfl h
 | some inf => exact ⟨inf, rfl, rfl⟩
theorem afieldAddr_ok {s : TypeId} {f : Nat} {p p' v : Value} (hp : VRel ι p p') (ha : afieldAddr P s f p = some v) (w : World) : ∃ v', (Instr.fieldAt s p' f).run P w = .ok v' w ∧ VRel ι v v':=by
 unfold afieldAddr at ha
 split at ha
 · rename_i id off
   cases hp with
   | ptr _ _ i hi =>
   split at ha
   · rename_i fields hu
     split at ha
     · rename_i fd hfd
       split at ha
       · cases ha
       · rename_i hz
         cases ha
         obtain ⟨inf, hinf, hs⟩:=szD_info hz
         refine ⟨.pointer (some ⟨i.rb, i.δ + (off + fd.offset), none⟩), ?_, .ptr _ _ _ hi⟩
         simp only [Instr.fieldAt, Sem.run_bind, run_underlying hu, Result.andThen_ok, hfd, Instr.sureAddr, Sem.run_pure, fieldPlace, run_sizeOf hinf]
         rw [if_neg (by omega), addr_add, Nat.add_assoc]
         rfl
     · cases ha
   · cases ha
 · cases ha
noncomputable def apart (P : Program) (t : TypeId) (cs : Array Value) (off : Nat) : Option Value :=
 match P.underlying t with
 | some d =>
   if aggT d then
     match P.info? t with
     | some inf => some (.agg (cs.extract off (off + inf.size)))
     | none => none
   else cs[off]?
 | none => none
theorem apart_ok {t : TypeId} {cs cs' : Array Value} {off : Nat} {v : Value} (hc : ARel ι cs cs') (ha : apart P t cs off = some v) (w : World) : ∃ v', (part t cs' off).run P w = .ok v' w ∧ VRel ι v v':=by
 unfold apart at ha
 split at ha
 · rename_i d hu
   split at ha
   · rename_i hd
     split at ha
     · rename_i inf hinf
       cases ha
       refine ⟨.agg (cs'.extract off (off + inf.size)), by simp only [part, Sem.run_bind, run_isAgg hu, Result.andThen_ok, hd, if_true, run_sizeOf hinf, Sem.run_pure], ?_⟩
       refine .agg _ _ (by simp [hc.1]) fun i a b => ?_
       simp only [Array.getElem_extract]
       exact hc.2 _ _ _
     · cases ha
   · rename_i hd
     obtain ⟨v', a, b⟩:=hc.get ha
     refine ⟨v', ?_, b⟩
     simp only [part, Sem.run_bind, run_isAgg hu, Result.andThen_ok, Bool.eq_false_iff.2 hd, if_false, Bool.false_eq_true, a, Sem.run_pure]
 · cases ha
noncomputable def afield (P : Program) (t : TypeId) (f : Nat) : Value → Option Value
 | .agg cs =>
   match P.underlying t with
   | some (.struct fields) =>
     match fields[f]? with
     | some fd => apart P fd.type cs fd.offset
     | none => none
   | _ => none
 | _ => none
theorem afield_ok {t : TypeId} {f : Nat} {x x' v : Value} (hx : VRel ι x x') (ha : afield P t f x = some v) (w : World) : ∃ v', (Instr.field t x' f).run P w = .ok v' w ∧ VRel ι v v':=by
 unfold afield at ha
 split at ha
 · cases hx with
   | agg c c' h1 h2 =>
   split at ha
   · rename_i fields hu
     split at ha
     · rename_i fd hfd
       obtain ⟨v', a, b⟩:=apart_ok ⟨h1, h2⟩ ha w
       exact ⟨v', by simp only [Instr.field, Sem.run_bind, run_underlying hu, Result.andThen_ok, hfd, asAgg, Sem.run_pure, a], b⟩
     · cases ha
   · cases ha
 · cases ha
noncomputable def aindexAddr (P : Program) (t : TypeId) : Value → Value → Option Value
 | .slice (some ⟨id, off, none⟩) len _, .int _ i =>
   match P.underlying t with
   | some (.slice e) =>
     match P.info? e with
     | some inf => if 0 ≤ i ∧ i < len then some (.pointer (some ⟨id, off + i.toNat * inf.size, none⟩)) else none
     | none => none
   | _ => none
 | .pointer (some ⟨id, off, none⟩), .int _ i =>
   match P.underlying t with
   | some (.array len e) =>
     match P.info? e with
     | some inf => if 0 ≤ i ∧ i < (len : Int) then some (.pointer (some ⟨id, off + i.toNat * inf.size, none⟩)) else none
     | none => none
   | _ => none
 | _, _ => none
theorem aindexAddr_ok {t : TypeId} {x x' y y' v : Value} (hx : VRel ι x x') (hy : VRel ι y y') (ha : aindexAddr P t x y = some v) (w : World) : ∃ v', (Instr.indexAt t x' y').run P w = .ok v' w ∧ VRel ι v v':=by
 unfold aindexAddr at ha
 split at ha
 · rename_i id off len c k i
   cases hy
   cases hx with
   | slice _ _ _ _ cap j ra hj hl hc hx =>
   split at ha
   · rename_i e hu
     split at ha
     · rename_i inf hinf
       split at ha
       · rename_i hi
         cases ha
         rcases hx with ⟨rfl, _⟩ | ⟨h0, _⟩
         · refine ⟨.pointer (some ⟨j.rb, j.δ + (off + i.toNat * inf.size), none⟩), ?_, .ptr _ _ _ hj⟩
           simp only [Instr.indexAt, asIntOf, Sem.run_bind, Sem.run_pure, Result.andThen_ok, run_underlying hu]
           rw [if_pos hi]
           simp only [Sem.run_bind, run_sizeOf hinf, Result.andThen_ok, Sem.run_pure, addr_add, Nat.add_assoc]
         · omega
       · cases ha
     · cases ha
   · cases ha
 · rename_i id off k i
   cases hy
   cases hx with
   | ptr _ _ j hj =>
   split at ha
   · rename_i len e hu
     split at ha
     · rename_i inf hinf
       split at ha
       · rename_i hi
         cases ha
         refine ⟨.pointer (some ⟨j.rb, j.δ + (off + i.toNat * inf.size), none⟩), ?_, .ptr _ _ _ hj⟩
         simp only [Instr.indexAt, asIntOf, Sem.run_bind, Sem.run_pure, Result.andThen_ok, run_underlying hu, Instr.sureAddr]
         rw [if_pos hi]
         simp only [Sem.run_bind, run_sizeOf hinf, Result.andThen_ok, Sem.run_pure, addr_add, Nat.add_assoc]
       · cases ha
     · cases ha
   · cases ha
 · cases ha
noncomputable def aindex (P : Program) (t : TypeId) : Value → Value → Option Value
 | .string s, .int _ i =>
   match P.underlying t with
   | some .string => if 0 ≤ i then match s.data.toList[i.toNat]? with
     | some b => some (.int .u8 b.toNat)
     | none => none else none
   | _ => none
 | .agg cs, .int _ i =>
   match P.underlying t with
   | some (.array len e) =>
     match P.info? e with
     | some inf => if 0 ≤ i ∧ i < (len : Int) then apart P e cs (i.toNat * inf.size) else none
     | none => none
   | _ => none
 | _, _ => none
theorem aindex_ok {t : TypeId} {x x' y y' v : Value} (hx : VRel ι x x') (hy : VRel ι y y') (ha : aindex P t x y = some v) (w : World) : ∃ v', (Instr.index t x' y').run P w = .ok v' w ∧ VRel ι v v':=by
 unfold aindex at ha
 split at ha
 · rename_i s k i
   cases hy; cases hx
   split at ha
   · rename_i hu
     split at ha
     · rename_i hi
       split at ha
       · rename_i b hb
         cases ha
         refine ⟨.int .u8 b.toNat, ?_, .int _ _⟩
         have hb' : s[i.toNat]? = some b:=by
           rw [Array.getElem?_toList] at hb
           obtain ⟨h1, h2⟩:=Array.getElem?_eq_some_iff.1 hb
           have hs : i.toNat < s.size:=h1
           rw [getElem?_pos s _ hs]
           exact congrArg some h2
         simp only [Instr.index, asIntOf, Sem.run_bind, Sem.run_pure, Result.andThen_ok, run_underlying hu, if_pos hi, hb']
       · cases ha
     · cases ha
   · cases ha
 · rename_i cs k i
   cases hy
   cases hx with
   | agg c c' h1 h2 =>
   split at ha
   · rename_i len e hu
     split at ha
     · rename_i inf hinf
       split at ha
       · rename_i hi
         obtain ⟨v', a, b⟩:=apart_ok ⟨h1, h2⟩ ha w
         refine ⟨v', ?_, b⟩
         simp only [Instr.index, asIntOf, Sem.run_bind, Sem.run_pure, Result.andThen_ok, run_underlying hu]
         rw [if_pos hi]
         simp only [Sem.run_bind, run_sizeOf hinf, Result.andThen_ok, a]
       · cases ha
     · cases ha
   · cases ha
 · cases ha
noncomputable def abounds (len top : Nat) (lo hi : Option Value) : Option (Nat × Nat) :=
 match (match hi with | none => some len | some (.int _ h) => if 0 ≤ h ∧ h ≤ top then some h.toNat else none | _ => none) with
 | none => none
 | some h => match lo with
   | none => some (0, h)
   | some (.int _ l) => if 0 ≤ l ∧ l ≤ h then some (l.toNat, h) else none
   | _ => none
noncomputable def ORelV (ι : Nat → Option Loc) : Option Value → Option Value → Prop
 | none, none => True
 | some a, some b => VRel ι a b
 | _, _ => False
theorem abounds_ok {len top cap : Nat} {b : Bool} {lo lo' hi hi' : Option Value} {l h : Nat} (hlo : ORelV ι lo lo') (hhi : ORelV ι hi hi') (htop : top ≤ cap) (hlt : len ≤ top) (ha : abounds len top lo hi = some (l, h)) (w : World) :
   (Instr.sliceBounds b len cap lo' hi' none).run P w = .ok (l, h, cap) w ∧ l ≤ h ∧ h ≤ top:=by
 unfold abounds at ha
 split at ha
 · cases ha
 · rename_i h0 hh
   have H1 : (match hi' with | some v => Instr.sliceBound v cap (if b then .sliceAcap else .sliceAlen) | none => (pure len : Sem Nat)).run P w = .ok h0 w ∧ h0 ≤ top:=by
     cases hi with
     | none => cases hi' with
       | none => cases hh; exact ⟨rfl, hlt⟩
       | some v' => cases hhi
     | some v => cases hi' with
       | none => cases hhi
       | some v' =>
         cases hhi <;> first | cases hh | skip
         rename_i k n
         simp only at hh
         split at hh
         · rename_i hb
           cases hh
           refine ⟨?_, by omega⟩
           simp only [Instr.sliceBound, asIntOf, Sem.run_bind, Sem.run_pure, Result.andThen_ok]
           rw [if_pos (show 0 ≤ n ∧ n ≤ (cap : Int) by omega)]
           rfl
         · cases hh
   have H2 : (match lo' with | some v => Instr.sliceBound v h0 .sliceB | none => (pure 0 : Sem Nat)).run P w = .ok l w ∧ l ≤ h0 ∧ h = h0:=by
     cases lo with
     | none => cases lo' with
       | none => cases ha; exact ⟨rfl, by omega, rfl⟩
       | some v' => cases hlo
     | some v => cases lo' with
       | none => cases hlo
       | some v' =>
         cases hlo <;> first | cases ha | skip
         rename_i k n
         simp only at ha
         split at ha
         · rename_i hb
           cases ha
           refine ⟨?_, by omega, rfl⟩
           simp only [Instr.sliceBound, asIntOf, Sem.run_bind, Sem.run_pure, Result.andThen_ok]
           rw [if_pos hb]
           rfl
         · cases ha
   obtain ⟨H1, H1b⟩:=H1
   obtain ⟨H2, H2b, rfl⟩:=H2
   refine ⟨?_, H2b, H1b⟩
   unfold Instr.sliceBounds
   simp only [Sem.run_bind, Sem.run_pure, Result.andThen_ok]
   cases hi' with
   | none =>
     simp only [Sem.run_pure, Result.ok.injEq] at H1
     obtain ⟨rfl, _⟩:=H1
     cases lo' with
     | none =>
       simp only [Sem.run_pure, Result.ok.injEq] at H2
       obtain ⟨rfl, _⟩:=H2
       simp only [Sem.run_bind, Sem.run_pure, Result.andThen_ok]
     | some v =>
       simp only [Option.isSome_none, Bool.false_eq_true, if_false] at H2 ⊢
       simp only [Sem.run_bind, Sem.run_pure, Result.andThen_ok, H2]
   | some u =>
     simp only at H1 ⊢
     simp only [Sem.run_bind, Sem.run_pure, Result.andThen_ok, H1]
     cases lo' with
     | none =>
       simp only [Sem.run_pure, Result.ok.injEq] at H2
       obtain ⟨rfl, _⟩:=H2
       simp only [Sem.run_bind, Sem.run_pure, Result.andThen_ok]
     | some v =>
       simp only [Option.isSome_none, Bool.false_eq_true, if_false] at H2 ⊢
       simp only [Sem.run_bind, Sem.run_pure, Result.andThen_ok, H2]
noncomputable def isZero : Option Value → Bool
 | some (.int _ 0) => true
 | _ => false
noncomputable def isZero0 : Option Value → Bool
 | none => true
 | some (.int _ 0) => true
 | _ => false
noncomputable def aslice (P : Program) (t : TypeId) (h : Hp) (x : Value) (lo hi mx : Option Value) : Option Value :=
 match x, mx with
 | .string s, none =>
   match P.underlying t with
   | some .string => match abounds s.size s.size lo hi with
     | some (l, h) => some (.string (bsub s l h))
     | none => none
   | _ => none
 | .slice (some ⟨id, off, none⟩) len c, none =>
   match P.underlying t, h.t.get id with
   | some (.slice e), some (.cells _ e' _) => match P.info? e, P.info? e', abounds len (if c = 0 then len else max len (c - 1)) lo hi with
     | some inf, some inf', some (l, h) => if inf.size = inf'.size then some (.slice (some ⟨id, off + l * inf.size, none⟩) (h - l) (if c = 0 then 0 else c - l)) else none
     | _, _, _ => none
   | _, _ => none
 | .slice none 0 0, none =>
   match P.underlying t with
   | some (.slice e) => match P.info? e, abounds 0 0 lo hi with
     | some inf, some (l, h) => some (.slice none 0 0)
     | _, _ => none
   | _ => none
 | .slice (some ⟨id, off, none⟩) len c, some (.int _ 0) =>
   match P.underlying t with
   | some (.slice e) => match P.info? e with
     | some inf => if isZero0 lo && isZero hi then some (.slice (some ⟨id, off, none⟩) 0 1) else none
     | none => none
   | _ => none
 | .slice none 0 0, some (.int _ 0) =>
   match P.underlying t with
   | some (.slice e) => match P.info? e with
     | some inf => if isZero0 lo && isZero hi then some (.slice none 0 0) else none
     | none => none
   | _ => none
 | _, _ => none
theorem bounds0 {cap len : Nat} {k : IntKind} {lo lo' hi hi' : Option Value} (hlo : ORelV ι lo lo') (hhi : ORelV ι hi hi') (h : (isZero0 lo && isZero hi) = true) (w : World) :
   (Instr.sliceBounds true len cap lo' hi' (some (.int k 0))).run P w = .ok (0, 0, 0) w:=by
 rw [Bool.and_eq_true] at h
 obtain ⟨h1, h2⟩:=h
 unfold isZero at h2
 split at h2
 · rename_i k2
   cases hi' with
   | none => cases hhi
   | some u =>
   cases hhi
   unfold isZero0 at h1
   split at h1
   · cases lo' with
     | none => simp [Instr.sliceBounds, Instr.sliceBound, asIntOf]
     | some u => cases hlo
   · cases lo' with
     | none => cases hlo
     | some u =>
       cases hlo
       simp [Instr.sliceBounds, Instr.sliceBound, asIntOf]
   · cases h1
 · cases h2
theorem aslice_ok {h : Hp} {t : TypeId} {x x' : Value} {lo lo' hi hi' mx mx' : Option Value} {v : Value} (hI : Inv P base w0 ι h.t.get w) (hx : VRel ι x x') (hlo : ORelV ι lo lo') (hhi : ORelV ι hi hi') (hmx : ORelV ι mx mx') (ha : aslice P t h x lo hi mx = some v) :
   ∃ v', (Instr.sliceAt t x' lo' hi' mx').run P w = .ok v' w ∧ VRel ι v v':=by
 have hmn : mx = none → mx' = none:=fun e => by
   subst e
   cases mx' with
   | none => rfl
   | some v => cases hmx
 have hms : ∀ {k}, mx = some (.int k 0) → mx' = some (.int k 0):=fun {k} e => by
   subst e
   cases mx' with
   | none => cases hmx
   | some v => cases hmx; rfl
 unfold aslice at ha
 split at ha
 · rename_i s
   obtain rfl:=hmn rfl
   cases hx
   split at ha
   · rename_i hu
     split at ha
     · rename_i l h hb
       cases ha
       obtain ⟨b1, b2, b3⟩:=abounds_ok (P:=P) (b:=false) hlo hhi (Nat.le_refl _) (Nat.le_refl _) hb w
       refine ⟨.string (s.extract l h), ?_, by rw [bsub_eq]; exact .string _⟩
       simp only [Instr.sliceAt, Instr.slice, Sem.run_bind, run_underlying hu, Result.andThen_ok, Option.isSome_none, Bool.false_eq_true, if_false, Sem.run_pure, b1]
     · cases ha
   · cases ha
 · rename_i id off len c
   obtain rfl:=hmn rfl
   cases hx with
   | slice _ _ _ _ cap j ra hj hl hc hx =>
   split at ha
   · rename_i e cs e' wr hu hg
     split at ha
     · rename_i inf inf' l h hinf hinf' hb
       split at ha
       · rename_i hsz
         cases ha
         obtain ⟨arr, fz, _, _, _, h5, _⟩:=hI.cells_at hj hg
         have hes : inf.size = j.es:=hsz.trans (by rw [← h5]; unfold szD; rw [hinf'])
         have htop : (if c = 0 then len else max len (c - 1)) ≤ cap:=by split <;> omega
         have hlt : len ≤ (if c = 0 then len else max len (c - 1)):=by split <;> omega
         obtain ⟨b1, b2, b3⟩:=abounds_ok (P:=P) (b:=true) hlo hhi htop hlt hb w
         have hrun : (Instr.sliceAt t (.slice (some ra) len cap) lo' hi' none).run P w = .ok (.slice (if cap = l then some ra else some (ra.add (l * inf.size))) (h - l) (cap - l)) w:=by
           simp only [Instr.sliceAt, Instr.slice, Sem.run_bind, run_underlying hu, Result.andThen_ok, b1, run_sizeOf hinf, Sem.run_pure]
           rfl
         rcases hx with ⟨rfl, hx⟩ | ⟨h0, h1⟩
         · by_cases hcl : cap = l
           · rw [if_pos hcl] at hrun
             refine ⟨_, hrun, .slice _ _ _ _ _ j _ hj (by omega) ?_ (.inr ⟨by omega, by omega⟩)⟩
             split <;> omega
           · rw [if_neg hcl, addr_add] at hrun
             refine ⟨_, hrun, .slice _ _ _ _ _ j _ hj (by omega) ?_ (.inl ⟨by rw [Nat.add_assoc], ?_⟩)⟩
             · split <;> omega
             · obtain ⟨d, rfl⟩ : ∃ d, cap = l + d:=⟨cap - l, by omega⟩
               rw [hes, Nat.add_sub_cancel_left]
               rw [Nat.add_mul] at hx
               omega
         · refine ⟨_, hrun, ?_⟩
           have hl0 : l = 0:=by split at b3 <;> omega
           subst hl0
           rw [if_pos h1]
           exact .slice _ _ _ _ _ j _ hj (by split at b3 <;> omega) (by split <;> omega) (.inr ⟨by split at b3 <;> omega, by omega⟩)
       · cases ha
     · cases ha
   · cases ha
 · obtain rfl:=hmn rfl
   cases hx
   split at ha
   · rename_i e hu
     split at ha
     · rename_i inf l h hinf hb
       cases ha
       obtain ⟨b1, b2, b3⟩:=abounds_ok (P:=P) (b:=true) hlo hhi (Nat.le_refl _) (Nat.le_refl _) hb w
       obtain rfl : h = 0:=by omega
       obtain rfl : l = 0:=by omega
       refine ⟨.slice none 0 0, ?_, .nilSlice⟩
       simp only [Instr.sliceAt, Instr.slice, Sem.run_bind, run_underlying hu, Result.andThen_ok, b1, run_sizeOf hinf, Sem.run_pure]
       rfl
     · cases ha
   · cases ha
 · rename_i id off len c k
   obtain rfl:=hms rfl
   cases hx with
   | slice _ _ _ _ cap j ra hj hl hc hx =>
   split at ha
   · rename_i e hu
     split at ha
     · rename_i inf hinf
       split at ha
       · rename_i hz
         cases ha
         have b1:=bounds0 (P:=P) (cap:=cap) (len:=len) (k:=k) hlo hhi hz w
         refine ⟨.slice (some ra) 0 0, ?_, .slice _ _ _ _ _ j _ hj (Nat.le_refl _) (.inr rfl) (.inr ⟨rfl, rfl⟩)⟩
         simp only [Instr.sliceAt, Instr.slice, Sem.run_bind, run_underlying hu, Result.andThen_ok, b1, run_sizeOf hinf, Sem.run_pure]
         rfl
       · cases ha
     · cases ha
   · cases ha
 · rename_i k
   obtain rfl:=hms rfl
   cases hx
   split at ha
   · rename_i e hu
     split at ha
     · rename_i inf hinf
       split at ha
       · rename_i hz
         cases ha
         have b1:=bounds0 (P:=P) (cap:=0) (len:=0) (k:=k) hlo hhi hz w
         refine ⟨.slice none 0 0, ?_, .nilSlice⟩
         simp only [Instr.sliceAt, Instr.slice, Sem.run_bind, run_underlying hu, Result.andThen_ok, b1, run_sizeOf hinf, Sem.run_pure]
         rfl
       · cases ha
     · cases ha
   · cases ha
 · cases ha
end
end Go.Proofs.YtacknhbgfijkcaaGreatDoor.Abs
end
section
/- The engine, part 6: new rows, and what is appended. -/
namespace Go.Proofs.YtacknhbgfijkcaaGreatDoor.Abs
open Go Go.RowKit
section
variable {P : Program} {base : Nat} {w0 : Start} {ι : Nat → Option Loc} {H : Nat → Option AObj} {w w' : World}
noncomputable def cellsOf (P : Program) (h : Hp) (size : Nat) : Value → Option (Nat × List Value)
 | .slice none 0 0 => some (0, [])
 | .slice (some ⟨id, off, none⟩) len _ =>
   match h.t.get id with
   | some (.cells cs e _) => if szD P e = size ∧ off + len * size ≤ cs.length then some (len, (cs.drop off).take (len * size)) else none
   | _ => none
 | .string s => if size = 1 then some (s.size, s.data.toList.map fun b => .int .u8 b.toNat) else none
 | _ => none
theorem cellsOf_ok {h : Hp} {size n : Nat} {x x' : Value} {l : List Value} (hI : Inv P base w0 ι h.t.get w) (hx : VRel ι x x') (ha : cellsOf P h size x = some (n, l)) :
   (Builtin.lenOf x').run P w = .ok n w ∧ l.length = n * size ∧ ∃ arr, (Builtin.firstCells size n x').run P w = .ok arr w ∧ ARel ι l.toArray arr:=by
 unfold cellsOf at ha
 split at ha
 · cases ha
   cases hx
   exact ⟨rfl, by simp, #[], rfl, ARel.empty⟩
 · rename_i id off len c
   split at ha
   · rename_i cs e wr hg
     split at ha
     · rename_i hc
       cases ha
       cases hx with
       | slice _ _ _ _ cap j ra hj hl hcc hx =>
       obtain ⟨arr, fz, h1, h2, h3, h5, h4, _⟩:=hI.cells_at hj hg
       refine ⟨rfl, by rw [List.length_take, List.length_drop]; omega, ?_⟩
       rcases hx with ⟨rfl, hx⟩ | ⟨h0, _⟩
       · exact ⟨_, loadCells_run P h1 (by omega), rel_extract (by omega) h4 hc.2⟩
       · subst h0
         refine ⟨#[], ?_, by simp; exact ARel.empty⟩
         simp [Builtin.firstCells, loadCells, loadCellsFrom]
     · cases ha
   · cases ha
 · rename_i s
   split at ha
   · rename_i h1
     cases ha
     cases hx
     subst h1
     refine ⟨rfl, by rw [List.length_map, Nat.mul_one, Lib.size_eq], s.data.map fun b => .int .u8 b.toNat, ?_, ?_⟩
     · have e : (s.extract 0 s.size).data = s.data:=by
         apply Array.toList_inj.1
         rw [Lib.extract_data, List.drop_zero, Nat.sub_zero, Lib.size_eq, List.take_length]
       show Result.ok ((s.extract 0 s.size).data.map fun b => Value.int .u8 b.toNat) w = _
       rw [e]
     · refine ⟨by simp, fun i a b => ?_⟩
       simp
       exact .int _ _
   · cases ha
 · cases ha
theorem zeroCells_size (z : Array Value) (n : Nat) : (Builtin.zeroCells z n).size = n * z.size:=by simp [Builtin.zeroCells]
theorem inv_drew (hI : Inv P base w0 ι H w) : Inv P base w0 ι H w.drew :=
 hI.still (Below.refl _ w).drew
theorem grown_ok {h : Hp} {e : TypeId} {inf : TypeInfo} {z : Value} (hI : Inv P base w0 ι h.t.get w) (hn : ι h.n = none) (hgl : P.globals.size ≤ h.n) (hinf : P.info? e = some inf) (hz : azero P e = some z) (hzs : z.cells.size = inf.size) {cs : List Value} {old new : Array Value}
   (hc : ARel ι cs.toArray (old ++ new)) {need : Nat} (hneed : cs.length = need * inf.size) (k : Nat) :
   ∃ ι', Turn ι h.n h.t.get ι' (h.n + 1) (h.t.set h.n (some (.cells cs e true))).get ∧ Inv P base w0 ι' (h.t.set h.n (some (.cells cs e true))).get (w.alloc (.cells (old ++ new ++ Builtin.zeroCells z.cells k) e)) ∧
     VRel ι' (.slice (some ⟨h.n, 0, none⟩) need 0) (.slice (some ⟨w.heap.size, 0, none⟩) need (need + k)):=by
 have hsz : (old ++ new ++ Builtin.zeroCells z.cells k).size = (need + k) * inf.size:=by
   have:=hc.1
   rw [List.size_toArray] at this
   rw [Array.size_append, ← this, hneed, zeroCells_size, hzs, Nat.add_mul]
 refine ⟨fupd ι h.n (some ⟨w.heap.size, 0, (old ++ new ++ Builtin.zeroCells z.cells k).size, inf.size⟩), ?_, ?_, ?_⟩
 · rw [Tr.get_set_fun]; exact Turn.new hn _ _
 · rw [Tr.get_set_fun]
   have hl : cs.length = (old ++ new).size:=by rw [← hc.1, List.size_toArray]
   refine hI.new_cells hn hgl (by unfold szD; rw [hinf]) _ (0, 0) (fun o _ x => by omega) cs (by rw [Array.size_append]; omega) (fun j c hj => ?_)
   have hj' : cs.toArray[j]? = some c:=by simpa using hj
   obtain ⟨v, a, b⟩:=hc.get hj'
   refine ⟨v, ?_, b⟩
   obtain ⟨hlt, _⟩:=Array.getElem?_eq_some_iff.1 a
   rw [Array.getElem?_append_left hlt, a]
 · exact .slice _ _ _ _ _ _ _ (fupd_eq _ _ _) (by omega) (.inl rfl) (.inl ⟨rfl, by simp only; rw [hsz]; omega⟩)
noncomputable def srcT (P : Program) (argTypes : Array TypeId) : Bool :=
 match argTypes[1]? with
 | none => true
 | some xt => match P.underlying xt with
   | some (.int _) => false
   | some _ => true
   | none => false
noncomputable def aappend (P : Program) (h : Hp) (argTypes : Array TypeId) (s x : Value) : Option (Value × Hp) :=
 match argTypes[0]? with
 | none => none
 | some st =>
   match P.underlying st with
   | some (.slice e) =>
     if srcT P argTypes = true then
       match P.info? e, azero P e with
       | some inf, some z =>
         if z.cells.size = inf.size then
           match cellsOf P h inf.size s, cellsOf P h inf.size x with
           | some (sl, old), some (n, new) =>
             if (sl + n) * inf.bytes ≤ 140737488355328 ∧ sl + n ≤ 140737488355328 ∧ new.all Value.oneCell' = true then
               match s with
               | .slice none 0 0 => if n = 0 then some (s, h) else some (.slice (some ⟨h.n, 0, none⟩) n 0, ⟨h.t.set h.n (some (.cells new e true)), h.n + 1⟩)
               | .slice (some ⟨id, off, none⟩) _ c =>
                 if n = 0 then some (s, h)
                 else if c ≠ 0 ∧ c - 1 < sl + n then some (.slice (some ⟨h.n, 0, none⟩) (sl + n) 0, ⟨h.t.set h.n (some (.cells (old ++ new) e true)), h.n + 1⟩)
                 else match h.t.get id with
                   | some (.cells _ e' true) => if id ≠ h.n ∧ e' = e then some (.slice (some ⟨h.n, 0, none⟩) (sl + n) c, ⟨(h.t.set id none).set h.n (some (.cells (old ++ new) e true)), h.n + 1⟩) else none
                   | _ => none
               | _ => none
             else none
           | _, _ => none
         else none
       | _, _ => none
     else none
   | _ => none
theorem append_list (xs : List Value) (a b : Array Value) (l1 l2 : List Value) (h1 : ARel ι l1.toArray a) (h2 : ARel ι l2.toArray b) : ARel ι (l1 ++ l2).toArray (a ++ b):=by
 refine ARel.of_get (by have:=h1.1; have:=h2.1; simp at *; omega) fun i v hv => ?_
 have e1:=h1.1
 simp only [List.size_toArray] at e1
 simp only [List.getElem?_toArray] at hv
 by_cases hi : i < l1.length
 · rw [List.getElem?_append_left hi] at hv
   obtain ⟨v', p, q⟩:=h1.get (i:=i) (v:=v) (by simpa using hv)
   exact ⟨v', by rw [Array.getElem?_append_left (by omega)]; exact p, q⟩
 · rw [List.getElem?_append_right (by omega)] at hv
   obtain ⟨v', p, q⟩:=h2.get (i:=i - l1.length) (v:=v) (by simpa using hv)
   exact ⟨v', by rw [Array.getElem?_append_right (by omega), ← e1]; exact p, q⟩
theorem srcT_cases {argTypes : Array TypeId} (h : srcT P argTypes = true) : argTypes[1]? = none ∨ ∃ xt d, argTypes[1]? = some xt ∧ P.underlying xt = some d ∧ (∀ k, d ≠ .int k):=by
 unfold srcT at h
 cases h1 : argTypes[1]? with
 | none => exact .inl rfl
 | some xt =>
   rw [h1] at h
   simp only at h
   cases h2 : P.underlying xt with
   | none => rw [h2] at h; cases h
   | some d =>
     rw [h2] at h
     refine .inr ⟨xt, d, rfl, h2, fun k e => ?_⟩
     subst e
     cases h
theorem append_fit {argTypes : Array TypeId} {st e ty : TypeId} {inf : TypeInfo} {bs : Option Addr} {sl cap n : Nat} {x' : Value} (h0 : argTypes[0]? = some st) (hu : P.underlying st = some (.slice e)) (hs : srcT P argTypes = true) (hinf : P.info? e = some inf)
   (hl : (Builtin.lenOf x').run P w = .ok n w) (hfit : sl + n ≤ cap) {arr : Array Value} (hf : (Builtin.firstCells inf.size n x').run P w = .ok arr w) :
   (Builtin.append_ argTypes ty #[.slice bs sl cap, x']).run P w = (match bs with | some a => (storeCells (a.add (sl * inf.size)) arr.toList).run P w | none => .ok () w).andThen fun _ w' => .ok (.slice bs (sl + n) cap) w':=by
 rcases srcT_cases hs with h1 | ⟨xt, d, h1, h2, h3⟩
 · cases bs <;> simp [Builtin.append_, h0, h1, run_underlying hu, run_sizeOf hinf, hl, hfit, hf]
 · have hd : (match d with | .int _ => true | _ => false) = false:=by cases d <;> first | rfl | exact absurd rfl (h3 _)
   cases bs <;> simp [Builtin.append_, h0, h1, run_underlying hu, run_underlying h2, run_sizeOf hinf, hl, hfit, hf, hd]
theorem append_grow {argTypes : Array TypeId} {st e ty : TypeId} {inf : TypeInfo} {z : Value} {bs : Option Addr} {sl cap n : Nat} {x' : Value} (h0 : argTypes[0]? = some st) (hu : P.underlying st = some (.slice e)) (hs : srcT P argTypes = true) (hinf : P.info? e = some inf) (hz : azero P e = some z)
   (hl : (Builtin.lenOf x').run P w = .ok n w) (hfit : cap < sl + n) (hb : (sl + n) * inf.bytes ≤ 140737488355328) (hb2 : sl + n ≤ 140737488355328) {a1 a2 : Array Value}
   (ho : (Builtin.firstCells inf.size sl (.slice bs sl cap)).run P w.drew = .ok a1 w.drew) (hf : (Builtin.firstCells inf.size n x').run P w.drew = .ok a2 w.drew) :
   ∃ k, (Builtin.append_ argTypes ty #[.slice bs sl cap, x']).run P w = .ok (.slice (some ⟨w.heap.size, 0, none⟩) (sl + n) (sl + n + k)) (w.drew.alloc (.cells (a1 ++ a2 ++ Builtin.zeroCells z.cells k) e)):=by
 have hn : ¬ (sl + n ≤ cap):=by omega
 have h63' : ¬ (9223372036854775807 < ((sl : Int) + (n : Int))):=by omega
 have hfit2:=growslice_fits hfit hb
 have h48' : ¬ (281474976710656 < Builtin.nextslicecap (sl + n) cap * inf.bytes):=by omega
 obtain ⟨z1, z2, _⟩:=azero_ok hz w.drew
 obtain ⟨k, hk⟩ : ∃ k, (Question.appendCap (sl + n) cap e).cut (w.tape w.drawn (.appendCap (sl + n) cap e)) = sl + n + k:=⟨_, rfl⟩
 refine ⟨k, ?_⟩
 rcases srcT_cases hs with h1 | ⟨xt, d, h1, h2, h3⟩
 · simp [Builtin.append_, h0, h1, run_underlying hu, run_sizeOf hinf, run_typeInfo hinf, hl, hn, h63', h48', Question.forced, hk, ho, hf, z1, newRow]
 · have hd : (match d with | .int _ => true | _ => false) = false:=by cases d <;> first | rfl | exact absurd rfl (h3 _)
   simp [Builtin.append_, h0, h1, run_underlying hu, run_underlying h2, run_sizeOf hinf, run_typeInfo hinf, hl, hn, h63', h48', Question.forced, hk, ho, hf, z1, newRow, hd]
theorem aappend_ok {h h' : Hp} {argTypes : Array TypeId} {ty : TypeId} {s s' x x' v : Value} (hI : Inv P base w0 ι h.t.get w) (hn : ∀ id, h.n ≤ id → id < h'.n → ι id = none) (hgl : P.globals.size ≤ h.n) (hs : VRel ι s s') (hx : VRel ι x x') (ha : aappend P h argTypes s x = some (v, h')) :
   ∃ v' w' ι', (Builtin.append_ argTypes ty #[s', x']).run P w = .ok v' w' ∧ Turn ι h.n h.t.get ι' h'.n h'.t.get ∧ Inv P base w0 ι' h'.t.get w' ∧ VRel ι' v v':=by
 unfold aappend at ha
 split at ha
 · cases ha
 rename_i st h0
 split at ha
 rotate_left
 · cases ha
 rename_i e hu
 split at ha
 rotate_left
 · cases ha
 rename_i hst
 split at ha
 rotate_left
 · cases ha
 rename_i inf z hinf hz
 split at ha
 rotate_left
 · cases ha
 rename_i hzs
 split at ha
 rotate_left
 · cases ha
 rename_i sl old n new hco hcn
 split at ha
 rotate_left
 · cases ha
 rename_i hb
 obtain ⟨hb, hb2, h1c⟩:=hb
 have hI1:=inv_drew hI
 obtain ⟨xl, xn, arr, xf, xr⟩:=cellsOf_ok hI hx hcn
 obtain ⟨_, _, arr2, xf2, xr2⟩:=cellsOf_ok hI1 hx hcn
 obtain ⟨ol, on, _⟩:=cellsOf_ok hI hs hco
 obtain ⟨_, _, arr1, of1, or1⟩:=cellsOf_ok hI1 hs hco
 have both:=append_list [] arr1 arr2 old new or1 xr2
 have hlen : (old ++ new).length = (sl + n) * inf.size:=by rw [List.length_append, on, xn, Nat.add_mul]
 split at ha
 ·
   cases hs
   cases hco
   split at ha
   · rename_i hn0
     cases ha
     subst hn0
     refine ⟨.slice none 0 0, w, ι, ?_, Turn.refl _ _ _, hI, .nilSlice⟩
     rw [append_fit h0 hu hst hinf xl (by omega) xf]
     rfl
   · rename_i hn0
     cases ha
     obtain ⟨k, hk⟩:=append_grow (ty:=ty) h0 hu hst hinf hz xl (show 0 < 0 + n by omega) hb hb2 of1 xf2
     obtain ⟨ι', t1, t2, t3⟩:=grown_ok hI1 (hn h.n (Nat.le_refl _) (Nat.lt_succ_self _)) hgl hinf hz hzs both (need:=n) (by simpa using hlen) k
     rw [List.nil_append] at t1 t2
     refine ⟨_, _, ι', hk, t1, t2, ?_⟩
     rw [Nat.zero_add]
     exact t3
 · rename_i id off len c
   cases hs with
   | slice _ _ _ _ cap j ra hj hl hc hxx =>
   have hsl : sl = len:=by
     unfold cellsOf at hco
     simp only at hco
     split at hco
     · split at hco
       · cases hco; rfl
       · cases hco
     · cases hco
   subst hsl
   have grow : cap < sl + n → v = .slice (some ⟨h.n, 0, none⟩) (sl + n) 0 → h' = ⟨h.t.set h.n (some (.cells (old ++ new) e true)), h.n + 1⟩ →
       ∃ v' w' ι', (Builtin.append_ argTypes ty #[.slice (some ra) sl cap, x']).run P w = .ok v' w' ∧ Turn ι h.n h.t.get ι' h'.n h'.t.get ∧ Inv P base w0 ι' h'.t.get w' ∧ VRel ι' v v':=by
     rintro hcap rfl rfl
     obtain ⟨k, hk⟩:=append_grow (ty:=ty) h0 hu hst hinf hz xl hcap hb hb2 of1 xf2
     obtain ⟨ι', t1, t2, t3⟩:=grown_ok hI1 (hn h.n (Nat.le_refl _) (Nat.lt_succ_self _)) hgl hinf hz hzs both (need:=sl + n) hlen k
     exact ⟨_, _, ι', hk, t1, t2, t3⟩
   split at ha
   · rename_i hn0
     cases ha
     subst hn0
     refine ⟨.slice (some ra) sl cap, w, ι, ?_, Turn.refl _ _ _, hI, .slice _ _ _ _ _ _ _ hj hl hc hxx⟩
     rw [append_fit h0 hu hst hinf xl (by omega) xf]
     have he : arr.toList = []:=List.eq_nil_of_length_eq_zero (by rw [Array.length_toList, ← xr.1, List.size_toArray, xn]; omega)
     rw [he]
     rfl
   · rename_i hn0
     split at ha
     · rename_i hcc
       cases ha
       exact grow (by omega) rfl rfl
     · rename_i hcc
       split at ha
       rotate_left
       · cases ha
       rename_i cs e' hg
       split at ha
       rotate_left
       · cases ha
       rename_i hide
       obtain ⟨hide, rfl⟩:=hide
       cases ha
       have hm:=hn h.n (Nat.le_refl _) (Nat.lt_succ_self _)
       obtain ⟨arr0, fz, p1, p2, p3, p5, p4, p6⟩:=hI.cells_at hj hg
       obtain ⟨pb, pfz⟩:=p6 rfl
       have hes : inf.size = j.es:=by rw [← p5]; unfold szD; rw [hinf]
       by_cases hcap : cap < sl + n
       ·
         obtain ⟨k, hk⟩:=append_grow (ty:=ty) h0 hu hst hinf hz xl hcap hb hb2 of1 xf2
         have hk1:=(hI1.kill id)
         rw [← Tr.get_set_fun] at hk1
         obtain ⟨ι', t1, t2, t3⟩:=grown_ok (h:=⟨h.t.set id none, h.n⟩) hk1 hm hgl hinf hz hzs both (need:=sl + n) hlen k
         refine ⟨_, _, ι', hk, ?_, t2, ?_⟩
         · refine Turn.trans ?_ t1
           simp only [Tr.get_set_fun]
           exact Turn.at_block _ hj
         · cases t3 with
           | slice _ _ _ _ _ i2 ra2 q1 q2 q3 q4 => exact .slice _ _ _ _ _ i2 _ q1 q2 (by omega) q4
       ·
         rcases hxx with ⟨rfl, hxx⟩ | ⟨hz1, hz2⟩
         rotate_left
         · omega
         have hroom : j.δ + off + (sl + n) * j.es ≤ j.tot:=by
           have : (sl + n) * j.es ≤ cap * j.es:=Nat.mul_le_mul_right _ (by omega)
           omega
         have hln : arr.toList.length = n * inf.size:=by rw [Array.length_toList, ← xr.1, List.size_toArray, xn]
         have h1c' : ∀ u ∈ arr.toList, u.oneCell' = true:=fun u hm' => by
           obtain ⟨q, hq, rfl⟩:=List.getElem_of_mem hm'
           have hq1 : q < new.toArray.size:=by rw [xr.1]; simpa using hq
           have hr:=xr.2 q hq1 (by simpa using hq)
           rw [Array.getElem_toList, hr.oneCell]
           exact List.all_eq_true.1 h1c _ (by simp)
         rw [Nat.add_mul] at hroom
         obtain ⟨w', arr', r1, r2, r3, r4, r5⟩:=storeCells_run P j.rb (j.δ + off + sl * inf.size) e' fz arr.toList 0 arr0 w p1 (by rw [hln, p2, hes]; omega) (by rw [p2]; exact pfz) h1c'
         have hT : Turn ι h.n h.t.get (fupd ι h.n (some ⟨j.rb, j.δ + off, j.tot, j.es⟩)) (h.n + 1) ((h.t.set id none).set h.n (some (.cells (old ++ new) e' true))).get:=by
           refine Turn.trans (ι1:=ι) (n1:=h.n) (H1:=(h.t.set id none).get) ?_ ?_
           · simp only [Tr.get_set_fun]; exact Turn.at_block _ hj
           · simp only [Tr.get_set_fun]; exact Turn.new hm _ _
         refine ⟨.slice (some ⟨j.rb, j.δ + off, none⟩) (sl + n) cap, w', fupd ι h.n (some ⟨j.rb, j.δ + off, j.tot, j.es⟩), ?_, hT, ?_, ?_⟩
         · rw [append_fit h0 hu hst hinf xl (by omega) xf]
           simp only [addr_add]
           rw [r1]
           rfl
         ·
           have hcs : old = (cs.drop off).take (sl * inf.size) ∧ off + sl * inf.size ≤ cs.length:=by
             unfold cellsOf at hco
             simp only [hg] at hco
             split at hco
             · rename_i hq
               cases hco
               exact ⟨rfl, hq.2⟩
             · cases hco
           have hI2 : Inv P base w0 ι (fupd h.t.get id (some (.cells (cs.take (off + sl * inf.size)) e' true))) w':=by
             refine hI.turn_block hj hg rfl pb r2 ⟨arr', fz, r3, by rw [r4, p2], by rw [List.length_take]; omega, fun q u hq => ?_, p5, fun _ => ⟨pb, pfz⟩⟩ rfl
             rw [List.getElem?_take] at hq
             split at hq
             · rename_i hq1
               obtain ⟨v', a, b⟩:=p4 q u hq
               exact ⟨v', by rw [r5, if_neg (by omega)]; exact a, b⟩
             · cases hq
           have hI3:=hI2.rename (m:=h.n) (j:=⟨j.rb, j.δ + off, j.tot, j.es⟩) (o':=.cells (old ++ new) e' true) hj (fupd_eq _ _ _) rfl hm (fun x => hide x.symm) hgl rfl
             ⟨arr', fz, r3, by rw [r4, p2], by rw [hlen, hes, Nat.add_mul]; omega, fun q u hq => ?_, p5, fun _ => ⟨pb, pfz⟩⟩
           · refine hI3.congr fun q => ?_
             simp only [Tr.get_set_fun, fupd_fupd]
           · simp only at *
             by_cases hq1 : q < old.length
             · rw [List.getElem?_append_left hq1, hcs.1, List.getElem?_take] at hq
               split at hq
               · rw [List.getElem?_drop] at hq
                 obtain ⟨v', a, b⟩:=p4 (off + q) u hq
                 refine ⟨v', ?_, b.grow (Grows.upd hm _)⟩
                 rw [r5, if_neg (by rw [on] at hq1; omega), ← a]
                 congr 1; omega
               · cases hq
             · rw [List.getElem?_append_right (by omega)] at hq
               obtain ⟨v', a, b⟩:=xr.get (i:=q - old.length) (v:=u) (by simpa using hq)
               have hqlt:=(Array.getElem?_eq_some_iff.1 a).1
               have hqn : q - old.length < n * inf.size:=by rw [← hln]; simpa using hqlt
               refine ⟨v', ?_, b.grow (Grows.upd hm _)⟩
               rw [r5, if_pos (by rw [hln]; omega), Array.getElem?_toList, ← a]
               congr 1; omega
         · exact .slice _ _ _ _ _ _ _ (fupd_eq _ _ _) (by omega) hc (.inl ⟨by simp, by simp only; omega⟩)
 · cases ha
end
end Go.Proofs.YtacknhbgfijkcaaGreatDoor.Abs
end
section
/- The engine, part 7: maps. -/
namespace Go.Proofs.YtacknhbgfijkcaaGreatDoor.Abs
open Go Go.RowKit
section
variable {P : Program} {base : Nat} {w0 : Start} {ι : Nat → Option Loc} {H : Nat → Option AObj} {w w' : World}
theorem ERel.length : ∀ {a b : List MapEntry}, ERel ι a b → a.length = b.length
 | [], [], _ => rfl
 | _ :: _, _ :: _, ⟨_, h⟩ => by simp [ERel.length h]
theorem ERel.get : ∀ {a b : List MapEntry}, ERel ι a b → ∀ {i : Nat} {x : MapEntry}, a[i]? = some x → ∃ y, b[i]? = some y ∧ y.key = x.key ∧ y.born = x.born ∧ VRel ι x.val y.val
 | [], [], _, i, x, h => by simp at h
 | a :: as, b :: bs, ⟨h1, h⟩, 0, x, hx => by
   simp at hx
   subst hx
   exact ⟨b, rfl, h1⟩
 | a :: as, b :: bs, ⟨_, h⟩, i + 1, x, hx => by
   rw [List.getElem?_cons_succ] at hx ⊢
   exact ERel.get h hx
theorem ERel.set : ∀ {a b : List MapEntry}, ERel ι a b → ∀ (i : Nat) {f g : MapEntry → MapEntry}, (∀ x y, y.key = x.key → y.born = x.born → VRel ι x.val y.val → (g y).key = (f x).key ∧ (g y).born = (f x).born ∧ VRel ι (f x).val (g y).val) → ERel ι (a.modify i f) (b.modify i g)
 | [], [], _, i, f, g, _ => by cases i <;> trivial
 | a :: as, b :: bs, ⟨h1, h⟩, 0, f, g, hf => ⟨hf a b h1.1 h1.2.1 h1.2.2, h⟩
 | a :: as, b :: bs, ⟨h1, h⟩, i + 1, f, g, hf => ⟨h1, ERel.set h i hf⟩
theorem ERel.push : ∀ {a b : List MapEntry}, ERel ι a b → ∀ {x y : MapEntry}, (y.key = x.key ∧ y.born = x.born ∧ VRel ι x.val y.val) → ERel ι (a ++ [x]) (b ++ [y])
 | [], [], _, x, y, h => ⟨h, trivial⟩
 | _ :: _, _ :: _, ⟨h1, h⟩, x, y, hx => ⟨h1, ERel.push h hx⟩
noncomputable def idxNow (kind : TypeDesc) (k : Value) : List MapEntry → Nat → Option (Option Nat)
 | [], _ => some none
 | e :: es, i =>
   match Instr.sameNow kind k e.key with
   | some true => some (some i)
   | some false => idxNow kind k es (i + 1)
   | none => none
noncomputable def idxAsk (P : Program) (kt : TypeId) (k : Value) : List MapEntry → Nat → Option (Option Nat)
 | [], _ => some none
 | e :: es, i =>
   match pureRun P (Op.equal kt k e.key) with
   | some true => some (some i)
   | some false => idxAsk P kt k es (i + 1)
   | none => none
noncomputable def aidx (P : Program) (kt : TypeId) (kd : TypeDesc) (k : Value) (es : List MapEntry) : Option (Option Nat) :=
 match idxNow kd k es 0 with
 | some r => some r
 | none => idxAsk P kt k es 0
noncomputable def keyOk (P : Program) (kt : TypeId) (kd : TypeDesc) (k : Value) (empty : Bool) : Bool :=
 match kd, k with
 | .string, .string _ => true
 | .int _, .int _ _ => true
 | .bool, .bool _ => true
 | .array _ _, .agg cs => flat k && (match pureRun P (Instr.checkKey empty 10000 kt k) with | some _ => true | none => false)
 | .struct _, .agg cs => flat k && (match pureRun P (Instr.checkKey empty 10000 kt k) with | some _ => true | none => false)
 | _, _ => false
theorem keyOk_ok {kt : TypeId} {kd : TypeDesc} {k k' : Value} {empty : Bool} (hu : P.underlying kt = some kd) (hk : VRel ι k k') (h : keyOk P kt kd k empty = true) (w : World) : k' = k ∧ (Instr.checkKey empty 10000 kt k).run P w = .ok () w:=by
 have str : ∀ n s, kd = .string → (Instr.checkKey empty (n + 1) kt (.string s)).run P w = .ok () w:=fun n s e => by
   subst e
   simp only [Instr.checkKey, Sem.run_bind, run_underlying hu, Result.andThen_ok, Sem.run_pure]
 have int : ∀ n q k a, kd = .int q → (Instr.checkKey empty (n + 1) kt (.int k a)).run P w = .ok () w:=fun n q k a e => by
   subst e
   simp only [Instr.checkKey, Sem.run_bind, run_underlying hu, Result.andThen_ok, Sem.run_pure]
 have boo : ∀ n a, kd = .bool → (Instr.checkKey empty (n + 1) kt (.bool a)).run P w = .ok () w:=fun n a e => by
   subst e
   simp only [Instr.checkKey, Sem.run_bind, run_underlying hu, Result.andThen_ok, Sem.run_pure]
 unfold keyOk at h
 split at h
 · cases hk; exact ⟨rfl, str 9999 _ rfl⟩
 · cases hk; exact ⟨rfl, int 9999 _ _ _ rfl⟩
 · cases hk; exact ⟨rfl, boo 9999 _ rfl⟩
 · rw [Bool.and_eq_true] at h
   refine ⟨hk.flat_eq h.1, ?_⟩
   have h2:=h.2
   split at h2
   · rename_i u hp
     exact pureRun_ok hp w
   · cases h2
 · rw [Bool.and_eq_true] at h
   refine ⟨hk.flat_eq h.1, ?_⟩
   have h2:=h.2
   split at h2
   · rename_i u hp
     exact pureRun_ok hp w
   · cases h2
 · cases h
theorem findNow_idx {kd : TypeDesc} {k : Value} : ∀ {a b : List MapEntry} (i : Nat) (r : Option Nat), ERel ι a b → idxNow kd k a i = some r →
   ∃ q, Instr.findNow kd k b i = some q ∧ q.map (·.1) = r ∧ ∀ j v, q = some (j, v) → i ≤ j ∧ ∃ e, b[j - i]? = some e ∧ e.val = v
 | [], [], i, r, _, h => by cases h; exact ⟨none, rfl, rfl, fun j v e => by cases e⟩
 | x :: as, y :: bs, i, r, ⟨h1, h2⟩, h => by
   unfold idxNow at h
   unfold Instr.findNow
   rw [h1.1]
   split at h
   · rename_i e; rw [e]; cases h
     exact ⟨_, rfl, rfl, fun j v e => by cases e; exact ⟨Nat.le_refl _, y, by simp, rfl⟩⟩
   · rename_i e; rw [e]
     obtain ⟨q, q1, q2, q3⟩:=findNow_idx (i + 1) r h2 h
     refine ⟨q, q1, q2, fun j v e => ?_⟩
     obtain ⟨a, z, b, c⟩:=q3 j v e
     refine ⟨by omega, z, ?_, c⟩
     rw [show j - i = (j - (i + 1)) + 1 by omega, List.getElem?_cons_succ]
     exact b
   · cases h
theorem findNow_none {kd : TypeDesc} {k : Value} : ∀ {a b : List MapEntry} (i : Nat), ERel ι a b → idxNow kd k a i = none → Instr.findNow kd k b i = none
 | [], [], i, _, h => by cases h
 | x :: as, y :: bs, i, ⟨h1, h2⟩, h => by
   unfold idxNow at h
   unfold Instr.findNow
   rw [h1.1]
   split at h
   · cases h
   · rename_i e; rw [e]; exact findNow_none (i + 1) h2 h
   · rename_i e; rw [e]
theorem findAsk_idx {kt : TypeId} {k : Value} (w : World) : ∀ {a b : List MapEntry} (i : Nat) (r : Option Nat), ERel ι a b → idxAsk P kt k a i = some r →
   ∃ q, (Instr.findAsking kt k b i).run P w = .ok q w ∧ q.map (·.1) = r ∧ ∀ j v, q = some (j, v) → i ≤ j ∧ ∃ e, b[j - i]? = some e ∧ e.val = v
 | [], [], i, r, _, h => by cases h; exact ⟨none, rfl, rfl, fun j v e => by cases e⟩
 | x :: as, y :: bs, i, r, ⟨h1, h2⟩, h => by
   unfold idxAsk at h
   unfold Instr.findAsking
   rw [h1.1]
   split at h
   · rename_i e; cases h
     simp only [Sem.run_bind, pureRun_ok e w, Result.andThen_ok, if_true, Sem.run_pure]
     exact ⟨_, rfl, rfl, fun j v e => by cases e; exact ⟨Nat.le_refl _, y, by simp, rfl⟩⟩
   · rename_i e
     simp only [Sem.run_bind, pureRun_ok e w, Result.andThen_ok, if_false, Bool.false_eq_true, Sem.run_pure]
     obtain ⟨q, q1, q2, q3⟩:=findAsk_idx w (i + 1) r h2 h
     refine ⟨q, q1, q2, fun j v e => ?_⟩
     obtain ⟨a, z, b, c⟩:=q3 j v e
     refine ⟨by omega, z, ?_, c⟩
     rw [show j - i = (j - (i + 1)) + 1 by omega, List.getElem?_cons_succ]
     exact b
   · cases h
theorem aidx_ok {kt : TypeId} {kd : TypeDesc} {k : Value} {a b : List MapEntry} {r : Option Nat} (hu : P.underlying kt = some kd) (he : ERel ι a b) (h : aidx P kt kd k a = some r) (w : World) :
   ∃ q, (Instr.findKey kt k b).run P w = .ok q w ∧ q.map (·.1) = r ∧ ∀ j v, q = some (j, v) → ∃ e, b[j]? = some e ∧ e.val = v:=by
 unfold aidx at h
 split at h
 · rename_i r' hr
   cases h
   obtain ⟨q, q1, q2, q3⟩:=findNow_idx 0 _ he hr
   refine ⟨q, ?_, q2, fun j v e => (q3 j v e).2⟩
   simp only [Instr.findKey, Sem.run_bind, run_underlying hu, Result.andThen_ok, q1, Sem.run_pure]
 · rename_i hr
   obtain ⟨q, q1, q2, q3⟩:=findAsk_idx (P:=P) w 0 _ he h
   refine ⟨q, ?_, q2, fun j v e => (q3 j v e).2⟩
   simp only [Instr.findKey, Sem.run_bind, run_underlying hu, Result.andThen_ok, findNow_none 0 he hr, q1]
noncomputable def entries (h : Hp) : Value → Option (List MapEntry)
 | .map none => some []
 | .map (some id) => match h.t.get id with
   | some (.map es _ _) => some es
   | _ => none
 | _ => none
theorem run_getObj {r : Nat} {es : Array MapEntry} {clock : Nat} (h : w.heap[r]? = some (.map es clock)) : (getObj r).run P w = .ok (.map es clock) w:=by
 simp only [getObj, Sem.run, h]
theorem run_setObj {r : Nat} {es : Array MapEntry} {clock : Nat} (h : w.heap[r]? = some (.map es clock)) (o : Obj) : (setObj r o).run P w = .ok () { w with heap:=w.heap.setIfInBounds r o }:=by
 simp only [setObj, Sem.run, h]
noncomputable def alookupM (P : Program) (t : TypeId) (h : Hp) (m k : Value) (commaOk : Bool) : Option Value :=
 match P.underlying t with
 | some (.map kt et) =>
   match entries h m, P.underlying kt with
   | some es, some kd =>
     if keyOk P kt kd k es.isEmpty = true then
       match aidx P kt kd k es with
       | some (some i) => match es[i]? with
         | some e => some (if commaOk then .tuple #[e.val, .bool true] else e.val)
         | none => none
       | some none => match azero P et with
         | some z => some (if commaOk then .tuple #[z, .bool false] else z)
         | none => none
       | none => none
     else none
   | _, _ => none
 | _ => none
theorem two {a a' b b' : Value} (h1 : VRel ι a a') (h2 : VRel ι b b') : VRel ι (.tuple #[a, b]) (.tuple #[a', b']) :=
 .tuple _ _ rfl fun i x y => by
   rcases i with _ | _ | i
   · exact h1
   · exact h2
   · simp at x; omega
theorem alookupM_ok {h : Hp} {t : TypeId} {m m' k k' v : Value} {c : Bool} (hI : Inv P base w0 ι h.t.get w) (hm : VRel ι m m') (hk : VRel ι k k') (ha : alookupM P t h m k c = some v) :
   ∃ v', (Instr.lookup t m' k' c).run P w = .ok v' w ∧ VRel ι v v':=by
 unfold alookupM at ha
 split at ha
 rotate_left
 · cases ha
 rename_i kt et hu
 split at ha
 rotate_left
 · cases ha
 rename_i es kd hes hku
 split at ha
 rotate_left
 · cases ha
 rename_i hko
 obtain ⟨es', hrun, herel⟩ : ∃ es' : Array MapEntry, (match m' with
     | .map none => (pure #[] : Sem (Array MapEntry))
     | .map (some r) => do
       let .map es _ ← getObj r | stuck "Lookup: map expected"
       pure es
     | _ => stuck "Lookup: map expected").run P w = .ok es' w ∧ ERel ι es es'.toList := by
   unfold entries at hes
   split at hes
   · cases hm; cases hes
     exact ⟨#[], rfl, trivial⟩
   · split at hes
     · rename_i id es0 clock wr hg
       cases hes
       cases hm with
       | map _ i hi =>
       obtain ⟨es', e1, e2, _⟩:=hI.obj _ _ _ hi hg
       refine ⟨es', ?_, e2⟩
       simp only [Sem.run_bind, run_getObj e1, Result.andThen_ok, Sem.run_pure]
     · cases hes
   · cases hes
 have hemp : es'.isEmpty = es.isEmpty:=by
   have this : es.length = es'.size:=herel.length.trans Array.length_toList
   cases es with
   | nil =>
     obtain rfl : es' = #[]:=Array.eq_empty_of_size_eq_zero this.symm
     rfl
   | cons x xs =>
     rw [List.length_cons] at this
     rw [List.isEmpty_cons, Array.isEmpty, decide_eq_false_iff_not]
     omega
 rw [← hemp] at hko
 obtain ⟨rfl, hck⟩:=keyOk_ok hku hk hko w
 have fin : ∀ (q : Option (Nat × Value)) (u : Value) (b : Bool), (Instr.findKey kt k' es'.toList).run P w = .ok q w → (match q with | some (_, v) => (pure (v, true) : Sem (Value × Bool)) | none => do pure (← zeroValue et, false)).run P w = .ok (u, b) w →
     (Instr.lookup t m' k' c).run P w = .ok (if c then .tuple #[u, .bool b] else u) w:=by
   intro q u b h1 h2
   unfold Instr.lookup
   simp only [Sem.run_bind, run_underlying hu, Result.andThen_ok]
   cases m' <;> first | (cases hrun; done) | skip
   rename_i r
   cases r with
   | none =>
     simp only [Sem.run_pure, Result.ok.injEq] at hrun
     obtain ⟨rfl, _⟩:=hrun
     simp only [Sem.run_bind, Sem.run_pure, Result.andThen_ok, hck, h1]
     cases q with
     | none => simp only at h2 ⊢; simp only [Sem.run_bind] at h2 ⊢; cases hz : (zeroValue et).run P w <;> simp only [hz, Result.andThen_ok, Result.andThen_halt, Sem.run_pure] at h2 ⊢ <;> cases h2; rfl
     | some p => simp only [Sem.run_pure, Result.ok.injEq, Prod.mk.injEq] at h2 ⊢; obtain ⟨⟨rfl, rfl⟩, _⟩:=h2; rfl
   | some r =>
     simp only [Sem.run_bind] at hrun ⊢
     cases hg : (getObj r).run P w with
     | halt x y => rw [hg] at hrun; cases hrun
     | ok o w2 =>
       rw [hg] at hrun
       simp only [Result.andThen_ok] at hrun ⊢
       cases o <;> first | (cases hrun; done) | skip
       simp only [Sem.run_pure, Result.ok.injEq] at hrun
       obtain ⟨rfl, rfl⟩:=hrun
       simp only [Sem.run_bind, Sem.run_pure, Result.andThen_ok, hck, h1]
       cases q with
       | none => simp only at h2 ⊢; simp only [Sem.run_bind] at h2 ⊢; cases hz : (zeroValue et).run P w2 <;> simp only [hz, Result.andThen_ok, Result.andThen_halt, Sem.run_pure] at h2 ⊢ <;> cases h2; rfl
       | some p => simp only [Sem.run_pure, Result.ok.injEq, Prod.mk.injEq] at h2 ⊢; obtain ⟨⟨rfl, rfl⟩, _⟩:=h2; rfl
 split at ha
 · rename_i i hidx
   obtain ⟨q, q1, q2, q3⟩:=aidx_ok hku herel hidx w
   split at ha
   · rename_i e he
     cases ha
     cases q with
     | none => cases q2
     | some p =>
       obtain ⟨i', u⟩:=p
       simp at q2
       subst q2
       obtain ⟨e', g1, g2⟩:=q3 _ _ rfl
       obtain ⟨e2, g3, _, _, g4⟩:=herel.get he
       rw [g1] at g3
       cases g3
       subst g2
       refine ⟨_, fin _ e'.val true q1 rfl, ?_⟩
       cases c
       · exact g4
       · exact two g4 (.bool _)
   · cases ha
 · rename_i hidx
   obtain ⟨q, q1, q2, q3⟩:=aidx_ok hku herel hidx w
   split at ha
   · rename_i z hz
     cases ha
     cases q with
     | some p => cases q2
     | none =>
       obtain ⟨z1, z2, _⟩:=azero_ok hz w
       refine ⟨_, fin _ z false q1 (by simp only [Sem.run_bind, z1, Result.andThen_ok, Sem.run_pure]), ?_⟩
       cases c
       · exact VRel.of_flat z2
       · exact two (VRel.of_flat z2) (.bool _)
   · cases ha
 · cases ha
noncomputable def tableAt (h : Hp) : Value → Option (ByteArray → Option Value)
 | .map (some id) => match h.t.get id with
   | some (.table f) => some (assocT f)
   | _ => none
 | _ => none
noncomputable def tell (P : Program) (et : TypeId) (commaOk : Bool) : Option Value → Option Value
 | some v => some (if commaOk then .tuple #[v, .bool true] else v)
 | none => match azero P et with
   | some z => some (if commaOk then .tuple #[z, .bool false] else z)
   | none => none
noncomputable def alookup (P : Program) (t : TypeId) (h : Hp) (m k : Value) (commaOk : Bool) : Option Value :=
 match tableAt h m with
 | some f => match P.underlying t, k with
   | some (.map kt et), .string s => match P.underlying kt with
     | some .string => tell P et commaOk (f s)
     | _ => none
   | _, _ => none
 | none => alookupM P t h m k commaOk
theorem alookup_ok {h : Hp} {t : TypeId} {m m' k k' v : Value} {c : Bool} (hI : Inv P base w0 ι h.t.get w) (hm : VRel ι m m') (hk : VRel ι k k') (ha : alookup P t h m k c = some v) :
   ∃ v', (Instr.lookup t m' k' c).run P w = .ok v' w ∧ VRel ι v v':=by
 unfold alookup at ha
 split at ha
 rotate_left
 · exact alookupM_ok hI hm hk ha
 rename_i f hf
 split at ha
 rotate_left
 · cases ha
 rename_i kt et s hu
 cases hk
 split at ha
 rotate_left
 · cases ha
 rename_i hku
 unfold tableAt at hf
 split at hf
 rotate_left
 · cases hf
 rename_i id
 cases hm with
 | map _ i hi =>
 split at hf
 rotate_left
 · cases hf
 rename_i f' hg
 cases hf
 obtain ⟨es, clock, e1, e2⟩:=hI.obj _ _ _ hi hg
 have e3:=e2 kt s hku
 have hck : ∀ b n, (Instr.checkKey b (n + 1) kt (.string s)).run P w = .ok () w:=fun b n => by
   simp only [Instr.checkKey, Sem.run_bind, run_underlying hku, Result.andThen_ok, Sem.run_pure]
 have hck:=fun b => hck b 9999
 unfold tell at ha
 split at ha
 · rename_i u hu2
   rw [hu2] at e3
   obtain ⟨e3, j, e4⟩:=e3
   cases ha
   refine ⟨if c then .tuple #[u, .bool true] else u, ?_, ?_⟩
   · simp only [Instr.lookup, Sem.run_bind, run_underlying hu, Result.andThen_ok, run_getObj e1, Sem.run_pure, hck, e4 w]
   · cases c
     · exact VRel.of_flat e3
     · exact two (VRel.of_flat e3) (.bool _)
 · rename_i hu2
   rw [hu2] at e3
   split at ha
   rotate_left
   · cases ha
   rename_i z hz
   cases ha
   obtain ⟨z1, z2, _⟩:=azero_ok hz w
   refine ⟨if c then .tuple #[z, .bool false] else z, ?_, ?_⟩
   · simp only [Instr.lookup, Sem.run_bind, run_underlying hu, Result.andThen_ok, run_getObj e1, Sem.run_pure, hck, e3 w, z1]
   · cases c
     · exact VRel.of_flat z2
     · exact two (VRel.of_flat z2) (.bool _)
noncomputable def apos (P : Program) (kt : TypeId) (kd : TypeDesc) (k : Value) (es : List MapEntry) : Option (Option (Nat × MapEntry)) :=
 match aidx P kt kd k es with
 | some none => some none
 | some (some i) => match es[i]? with
   | some e => if Instr.sameBits 10000 e.key k = true then some (some (i, e)) else none
   | none => none
 | none => none
noncomputable def amapUpdate (P : Program) (t : TypeId) (h : Hp) (m k v : Value) : Option Hp :=
 match P.underlying t, m with
 | some (.map kt _), .map (some id) =>
   match h.t.get id, P.underlying kt with
   | some (.map es clock true), some kd =>
     if keyOk P kt kd k false = true then
       match apos P kt kd k es with
       | some (some (i, _)) => some ⟨h.t.set id (some (.map (es.modify i fun e => { e with key:=k, val:=v }) clock true)), h.n⟩
       | some none => some ⟨h.t.set id (some (.map (es ++ [{ key:=k, val:=v, born:=clock }]) (clock + 1) true)), h.n⟩
       | none => none
     else none
   | _, _ => none
 | _, _ => none
theorem keyStays {old new : Value} (h : Instr.sameBits 10000 old new = true) (w : World) : (Instr.keyThatStays old new).run P w = .ok new w:=by
 unfold Instr.keyThatStays
 rw [if_pos h]
 rfl
theorem Inv.set_map (hI : Inv P base w0 ι H w) {id : Nat} {i : Loc} {es es2 : List MapEntry} {clock clock2 : Nat} (hi : ι id = some i) (hg : H id = some (.map es clock true)) {es' : Array MapEntry} (he : ERel ι es2 es'.toList) :
   Inv P base w0 ι (fupd H id (some (.map es2 clock2 true))) { w with heap:=w.heap.setIfInBounds i.rb (.map es' clock2) }:=by
 obtain ⟨es0, e1, e2, e3⟩:=hI.obj _ _ _ hi hg
 have hlt:=hI.lt id i hi
 refine hI.turn_block hi hg rfl (e3 rfl) ⟨rfl, rfl, rfl, by simp, fun k hk => ?_⟩ ⟨es', ?_, he, e3⟩ rfl
 · simp only [Array.getElem?_setIfInBounds]
   rw [if_neg (fun x => hk x.symm)]
 · simp only [Array.getElem?_setIfInBounds, if_true, hlt]
theorem toList_modify' (a : Array MapEntry) (i : Nat) (f : MapEntry → MapEntry) : (a.modify i f).toList = a.toList.modify i f:=by
 apply List.ext_getElem?
 intro j
 rw [Array.getElem?_toList, Array.getElem?_modify, List.getElem?_modify, Array.getElem?_toList]
 by_cases h : i = j
 · simp [h]
 · simp [h]
theorem amapUpdate_ok {h h' : Hp} {t : TypeId} {m m' k k' v v' : Value} (hI : Inv P base w0 ι h.t.get w) (hm : VRel ι m m') (hk : VRel ι k k') (hv : VRel ι v v') (ha : amapUpdate P t h m k v = some h') :
   ∃ w', (Instr.mapUpdate t m' k' v').run P w = .ok () w' ∧ Turn ι h.n h.t.get ι h'.n h'.t.get ∧ Inv P base w0 ι h'.t.get w':=by
 unfold amapUpdate at ha
 split at ha
 rotate_left
 · cases ha
 rename_i kt et id hu
 cases hm with
 | map _ i hi =>
 split at ha
 rotate_left
 · cases ha
 rename_i es clock kd hg hku
 split at ha
 rotate_left
 · cases ha
 rename_i hko
 obtain ⟨es', e1, e2, e3⟩:=hI.obj _ _ _ hi hg
 obtain ⟨rfl, hck⟩:=keyOk_ok hku hk hko w
 split at ha
 · rename_i j e hp
   cases ha
   unfold apos at hp
   split at hp
   · cases hp
   · rename_i j' hidx
     split at hp
     · rename_i e0 he0
       split at hp
       · rename_i hsb
         cases hp
         obtain ⟨q, q1, q2, q3⟩:=aidx_ok hku e2 hidx w
         cases q with
         | none => cases q2
         | some p =>
         obtain ⟨j2, u⟩:=p
         simp at q2
         subst q2
         obtain ⟨e', g1, g2, _, _⟩:=e2.get he0
         have hold : ((es'[j2]?).map (·.key)).getD k' = e.key:=by
           rw [Array.getElem?_toList] at g1
           rw [g1, Option.map_some, Option.getD_some, g2]
         refine ⟨{ w with heap:=w.heap.setIfInBounds i.rb (.map (es'.modify j2 fun e => { e with key:=k', val:=v' }) clock) }, ?_, ?_, ?_⟩
         · simp only [Instr.mapUpdate, Sem.run_bind, run_underlying hu, Result.andThen_ok, run_getObj e1, hck, q1, hold, keyStays hsb]
           exact run_setObj e1 _
         · rw [Tr.get_set_fun]; exact Turn.at_block _ hi
         · rw [Tr.get_set_fun]
           refine hI.set_map hi hg ?_
           rw [toList_modify']
           exact e2.set j2 fun x y h1 h2 h3 => ⟨rfl, h2, hv⟩
       · cases hp
     · cases hp
   · cases hp
 · rename_i hp
   cases ha
   unfold apos at hp
   split at hp
   · rename_i hidx
     obtain ⟨q, q1, q2, q3⟩:=aidx_ok hku e2 hidx w
     cases q with
     | some p => cases q2
     | none =>
     refine ⟨{ w with heap:=w.heap.setIfInBounds i.rb (.map (es'.push { key:=k', val:=v', born:=clock }) (clock + 1)) }, ?_, ?_, ?_⟩
     · simp only [Instr.mapUpdate, Sem.run_bind, run_underlying hu, Result.andThen_ok, run_getObj e1, hck, q1]
       exact run_setObj e1 _
     · rw [Tr.get_set_fun]; exact Turn.at_block _ hi
     · rw [Tr.get_set_fun]
       refine hI.set_map hi hg ?_
       rw [Array.toList_push]
       exact e2.push ⟨rfl, rfl, hv⟩
   · split at hp
     · split at hp <;> cases hp
     · cases hp
   · cases hp
 · cases ha
noncomputable def amapEntry (P : Program) (t : TypeId) (h : Hp) (m k : Value) : Option (Value × Hp) :=
 match P.underlying t, m with
 | some (.map kt et), .map (some id) =>
   match h.t.get id, P.underlying kt with
   | some (.map es clock true), some kd =>
     if keyOk P kt kd k false = true then
       match apos P kt kd k es with
       | some (some (i, e)) => some (.tuple #[e.val, .int .i64 e.born], ⟨h.t.set id (some (.map (es.modify i fun e => { e with key:=k }) clock true)), h.n⟩)
       | some none => match azero P et with
         | some z => some (.tuple #[z, .int .i64 clock], ⟨h.t.set id (some (.map (es ++ [{ key:=k, val:=z, born:=clock }]) (clock + 1) true)), h.n⟩)
         | none => none
       | none => none
     else none
   | _, _ => none
 | _, _ => none
theorem amapEntry_ok {h h' : Hp} {t : TypeId} {m m' k k' v : Value} (hI : Inv P base w0 ι h.t.get w) (hm : VRel ι m m') (hk : VRel ι k k') (ha : amapEntry P t h m k = some (v, h')) :
   ∃ v' w', (Instr.mapEntry t m' k').run P w = .ok v' w' ∧ Turn ι h.n h.t.get ι h'.n h'.t.get ∧ Inv P base w0 ι h'.t.get w' ∧ VRel ι v v':=by
 unfold amapEntry at ha
 split at ha
 rotate_left
 · cases ha
 rename_i kt et id hu
 cases hm with
 | map _ i hi =>
 split at ha
 rotate_left
 · cases ha
 rename_i es clock kd hg hku
 split at ha
 rotate_left
 · cases ha
 rename_i hko
 obtain ⟨es', e1, e2, e3⟩:=hI.obj _ _ _ hi hg
 obtain ⟨rfl, hck⟩:=keyOk_ok hku hk hko w
 split at ha
 · rename_i j e hp
   cases ha
   unfold apos at hp
   split at hp
   · cases hp
   · rename_i j' hidx
     split at hp
     · rename_i e0 he0
       split at hp
       · rename_i hsb
         cases hp
         obtain ⟨q, q1, q2, q3⟩:=aidx_ok hku e2 hidx w
         cases q with
         | none => cases q2
         | some p =>
         obtain ⟨j2, u⟩:=p
         simp at q2
         subst q2
         obtain ⟨e', g1, g2, g3, g4⟩:=e2.get he0
         obtain ⟨e'', f1, f2⟩:=q3 _ _ rfl
         rw [g1] at f1
         cases f1
         rw [Array.getElem?_toList] at g1
         have hold : ((es'[j2]?).map (·.key)).getD k' = e.key:=by
           rw [g1, Option.map_some, Option.getD_some, g2]
         have hborn : ((es'[j2]?).map (fun x => (x.born : Int))).getD 0 = (e.born : Int):=by
           rw [g1, Option.map_some, Option.getD_some, g3]
         subst f2
         refine ⟨.tuple #[e'.val, .int .i64 e.born], { w with heap:=w.heap.setIfInBounds i.rb (.map (es'.modify j2 fun e => { e with key:=k' }) clock) }, ?_, ?_, ?_, two g4 (.int _ _)⟩
         · simp only [Instr.mapEntry, Sem.run_bind, run_underlying hu, Result.andThen_ok, run_getObj e1, hck, q1, hold, hborn, keyStays hsb, run_setObj e1, Sem.run_pure]
           rfl
         · rw [Tr.get_set_fun]; exact Turn.at_block _ hi
         · rw [Tr.get_set_fun]
           refine hI.set_map hi hg ?_
           rw [toList_modify']
           exact e2.set j2 fun x y h1 h2 h3 => ⟨rfl, h2, h3⟩
       · cases hp
     · cases hp
   · cases hp
 · rename_i hp
   split at ha
   rotate_left
   · cases ha
   rename_i z hz
   cases ha
   obtain ⟨z1, z2, _⟩:=azero_ok hz w
   unfold apos at hp
   split at hp
   · rename_i hidx
     obtain ⟨q, q1, q2, q3⟩:=aidx_ok hku e2 hidx w
     cases q with
     | some p => cases q2
     | none =>
     refine ⟨.tuple #[z, .int .i64 clock], { w with heap:=w.heap.setIfInBounds i.rb (.map (es'.push { key:=k', val:=z, born:=clock }) (clock + 1)) }, ?_, ?_, ?_, two (VRel.of_flat z2) (.int _ _)⟩
     · simp only [Instr.mapEntry, Sem.run_bind, run_underlying hu, Result.andThen_ok, run_getObj e1, hck, q1, z1, run_setObj e1, Sem.run_pure]
       rfl
     · rw [Tr.get_set_fun]; exact Turn.at_block _ hi
     · rw [Tr.get_set_fun]
       refine hI.set_map hi hg ?_
       rw [Array.toList_push]
       exact e2.push ⟨rfl, rfl, VRel.of_flat z2⟩
   · split at hp
     · split at hp <;> cases hp
     · cases hp
   · cases hp
 · cases ha
noncomputable def aentryStore (h : Hp) (m s v : Value) : Option Hp :=
 match m, s with
 | .map (some id), .int _ b =>
   match h.t.get id with
   | some (.map es clock true) => match es.findIdx? (fun e => (e.born : Int) == b) with
     | some i => some ⟨h.t.set id (some (.map (es.modify i fun e => { e with val:=v }) clock true)), h.n⟩
     | none => none
   | _ => none
 | _, _ => none
theorem findIdx_rel (b : Int) : ∀ {x y : List MapEntry}, ERel ι x y → y.findIdx? (fun e => (e.born : Int) == b) = x.findIdx? (fun e => (e.born : Int) == b)
 | [], [], _ => rfl
 | _ :: _, _ :: _, ⟨h1, h⟩ => by
   rw [List.findIdx?_cons, List.findIdx?_cons, h1.2.1, findIdx_rel b h]
theorem aentryStore_ok {h h' : Hp} {t : TypeId} {m m' s s' v v' : Value} (hI : Inv P base w0 ι h.t.get w) (hm : VRel ι m m') (hs : VRel ι s s') (hv : VRel ι v v') (ha : aentryStore h m s v = some h') :
   ∃ w', (Instr.entryStore t m' s' v').run P w = .ok () w' ∧ Turn ι h.n h.t.get ι h'.n h'.t.get ∧ Inv P base w0 ι h'.t.get w':=by
 unfold aentryStore at ha
 split at ha
 rotate_left
 · cases ha
 rename_i id k b
 cases hs
 cases hm with
 | map _ i hi =>
 split at ha
 rotate_left
 · cases ha
 rename_i es clock hg
 obtain ⟨es', e1, e2, e3⟩:=hI.obj _ _ _ hi hg
 split at ha
 rotate_left
 · cases ha
 rename_i j hj
 cases ha
 have hj' : es'.findIdx? (fun e => (e.born : Int) == b) = some j:=by
   rw [show es' = es'.toList.toArray from rfl, List.findIdx?_toArray, findIdx_rel b e2]
   exact hj
 refine ⟨{ w with heap:=w.heap.setIfInBounds i.rb (.map (es'.modify j fun e => { e with val:=v' }) clock) }, ?_, ?_, ?_⟩
 · simp only [Instr.entryStore, Sem.run_bind, Result.andThen_ok, run_getObj e1, asInt, asIntOf, Sem.run_pure, hj']
   exact run_setObj e1 _
 · rw [Tr.get_set_fun]; exact Turn.at_block _ hi
 · rw [Tr.get_set_fun]
   refine hI.set_map hi hg ?_
   rw [toList_modify']
   exact e2.set j fun x y h1 h2 h3 => ⟨h1, h2, hv⟩
end
end Go.Proofs.YtacknhbgfijkcaaGreatDoor.Abs
end
section
/- The engine, part 8: rows that are made, texts and bytes, the builtins, and each operation as the walk meets it. -/
namespace Go.Proofs.YtacknhbgfijkcaaGreatDoor.Abs
open Go Go.RowKit
section
variable {P : Program} {base : Nat} {w0 : Start} {ι : Nat → Option Loc} {H : Nat → Option AObj} {w w' : World}
noncomputable def amakeSlice (P : Program) (t : TypeId) (h : Hp) : Value → Value → Option (Value × Hp)
 | .int _ l, .int _ c =>
   match P.underlying t with
   | some (.slice e) =>
     match P.info? e, azero P e with
     | some inf, some z =>
       if 0 ≤ l ∧ l ≤ c ∧ (inf.bytes : Int) * c ≤ 281474976710656 ∧ c ≤ 281474976710656 ∧ 0 < z.cells.size ∧ z.cells.size = inf.size then
         some (.slice (some ⟨h.n, 0, none⟩) l.toNat (c.toNat + 1), ⟨h.t.set h.n (some (.cells (zeros z.cells (c.toNat * inf.size)).toList e true)), h.n + 1⟩)
       else none
     | _, _ => none
   | _ => none
 | _, _ => none
theorem amakeSlice_ok {h h' : Hp} {t : TypeId} {x x' y y' v : Value} (hI : Inv P base w0 ι h.t.get w) (hn : ∀ id, h.n ≤ id → id < h'.n → ι id = none) (hgl : P.globals.size ≤ h.n) (hx : VRel ι x x') (hy : VRel ι y y') (ha : amakeSlice P t h x y = some (v, h')) :
   ∃ v' w' ι', (Instr.makeSlice t x' y').run P w = .ok v' w' ∧ Turn ι h.n h.t.get ι' h'.n h'.t.get ∧ Inv P base w0 ι' h'.t.get w' ∧ VRel ι' v v':=by
 unfold amakeSlice at ha
 split at ha
 rotate_left
 · cases ha
 rename_i k1 l k2 c
 cases hx; cases hy
 split at ha
 rotate_left
 · cases ha
 rename_i e hu
 split at ha
 rotate_left
 · cases ha
 rename_i inf z hinf hz
 split at ha
 rotate_left
 · cases ha
 rename_i hc
 obtain ⟨c1, c2, c3, c4, c5, c6⟩:=hc
 cases ha
 obtain ⟨z1, z2, _⟩:=azero_ok hz w
 have hzr:=zeros_rel (ι:=ι) z2 (c.toNat * inf.size) (.inr c5)
 obtain ⟨ι', r1, r2, r3, r4⟩:=newRow_ok hI (hn h.n (Nat.le_refl _) (Nat.lt_succ_self _)) hgl hinf hzr
 have hsz : (zeros z.cells (c.toNat * inf.size)).size = c.toNat * inf.size:=by simp [zeros]
 refine ⟨.slice (some ⟨w.heap.size, 0, none⟩) l.toNat c.toNat, _, ι', ?_, r3, r4, .slice _ _ _ _ _ _ _ r2 (by omega) (.inr rfl) (.inl ⟨rfl, by simp only; omega⟩)⟩
 have wl : IntKind.i64.wrap l = l:=by rw [IntKind.wrap_i64]; omega
 have wc : IntKind.i64.wrap c = c:=by rw [IntKind.wrap_i64]; omega
 have hlarge : (decide (c < 0) || decide ((inf.bytes : Int) * c > 2 ^ 48)) = false:=by
   rw [Bool.or_eq_false_iff]
   exact ⟨decide_eq_false (by omega), decide_eq_false (by omega)⟩
 unfold Instr.makeSlice
 simp only [Sem.run_bind, run_underlying hu, Result.andThen_ok, asInt, asIntOf, Sem.run_pure, run_typeInfo hinf, wl, wc]
 rw [if_neg (by rw [hlarge]; simp; omega)]
 try simp only [Sem.run_bind, Sem.run_pure, Result.andThen_ok]
 simp only [Sem.run_bind, run_askRoom, run_sizeOf hinf, Result.andThen_ok]
 by_cases h0 : c.toNat * inf.size = 0
 · rw [if_pos h0]
   have hzs : (Array.range (c.toNat * inf.size)).map (fun i => (#[] : Array Value)[i % (#[] : Array Value).size]!) = zeros z.cells (c.toNat * inf.size):=by
     simp [h0, zeros]
   simp only [Sem.run_bind, Sem.run_pure, Result.andThen_ok, hzs, r1]
 · rw [if_neg h0]
   simp only [Sem.run_bind, z1, Sem.run_pure, Result.andThen_ok]
   rw [show (Array.range (c.toNat * inf.size)).map (fun i => z.cells[i % z.cells.size]!) = zeros z.cells (c.toNat * inf.size) from rfl]
   simp only [r1, Result.andThen_ok]
noncomputable def bytesOf : List Value → Option (List UInt8)
 | [] => some []
 | .int .u8 n :: r => match bytesOf r with
   | some l => some (UInt8.ofNat n.toNat :: l)
   | none => none
 | _ => none
noncomputable def aconvert (P : Program) (src dst : TypeId) (h : Hp) (x : Value) : Option (Value × Hp) :=
 match P.underlying src, P.underlying dst, x with
 | some _, some (.int k), .int _ n => some (.int k (k.wrap n), h)
 | some .string, some .string, .string s => some (.string s, h)
 | some .string, some (.slice e), .string s =>
   match P.underlying e, P.info? e with
   | some (.int .u8), some inf => if inf.size = 1 then some (.slice (some ⟨h.n, 0, none⟩) s.size 0, ⟨h.t.set h.n (some (.cells (s.data.toList.map fun b => .int .u8 b.toNat) e true)), h.n + 1⟩) else none
   | _, _ => none
 | some (.slice e), some .string, x =>
   match P.underlying e, cellsOf P h 1 x, x with
   | some (.int .u8), some (n, cs), .slice _ _ _ => match bytesOf cs with
     | some l => some (.string ⟨⟨l⟩⟩, h)
     | none => none
   | _, _, _ => none
 | _, _, _ => none
theorem bytesToString_run (f : Value → ByteArray → Sem (ForInStep ByteArray)) (hf : ∀ n s, f (.int .u8 n) s = pure (ForInStep.yield (s.push (UInt8.ofNat n.toNat)))) : ∀ (cs : List Value) (l : List UInt8) (acc : ByteArray), bytesOf cs = some l → ∀ w : World,
   (forIn cs acc f).run P w = .ok ⟨⟨acc.data.toList ++ l⟩⟩ w
 | [], l, acc, h, w => by
   cases h
   simp
 | c :: cs, l, acc, h, w => by
   unfold bytesOf at h
   split at h
   · rename_i e; cases e
   · rename_i n r e
     cases e
     split at h
     · rename_i l' hl
       cases h
       rw [List.forIn_cons, hf]
       simp only [Sem.run_bind, Sem.run_pure, Result.andThen_ok]
       rw [bytesToString_run f hf cs l' _ hl w]
       simp [ByteArray.push]
     · cases h
   · cases h
theorem World.same {a b : World} (h1 : a.heap = b.heap) (h2 : a.tape = b.tape) (h3 : a.drawn = b.drawn) (h4 : a.os = b.os) (h5 : a.output = b.output) : a = b:=by
 cases a; cases b
 simp only at *
 subst h1 h2 h3 h4 h5
 rfl
theorem aconvert_ok {h h' : Hp} {src dst : TypeId} {x x' v : Value} (hI : Inv P base w0 ι h.t.get w) (hn : ∀ id, h.n ≤ id → id < h'.n → ι id = none) (hgl : P.globals.size ≤ h.n) (hx : VRel ι x x') (ha : aconvert P src dst h x = some (v, h')) :
   ∃ v' w' ι', (convert src dst x').run P w = .ok v' w' ∧ Turn ι h.n h.t.get ι' h'.n h'.t.get ∧ Inv P base w0 ι' h'.t.get w' ∧ VRel ι' v v':=by
 unfold aconvert at ha
 split at ha
 · rename_i d k k0 n h1 h2
   cases ha
   cases hx
   refine ⟨_, w, ι, ?_, Turn.refl _ _ _, hI, .int _ _⟩
   simp only [convert, Sem.run_bind, run_underlying h1, run_underlying h2, Result.andThen_ok]
   rfl
 · rename_i s h1 h2
   cases ha
   cases hx
   refine ⟨_, w, ι, ?_, Turn.refl _ _ _, hI, .string _⟩
   simp only [convert, Sem.run_bind, run_underlying h1, run_underlying h2, Result.andThen_ok]
   rfl
 · rename_i e s h1 h2
   cases hx
   split at ha
   rotate_left
   · cases ha
   rename_i inf hu hinf
   split at ha
   rotate_left
   · cases ha
   rename_i hs1
   cases ha
   obtain ⟨k, hk⟩ : ∃ k, (Question.appendCap s.size 0 e).cut (w.tape w.drawn (.appendCap s.size 0 e)) = s.size + k:=⟨_, rfl⟩
   obtain ⟨arr, harr⟩ : ∃ arr : Array Value, arr = (s.data.map fun b => Value.int .u8 b.toNat) ++ Array.replicate k (.int .u8 0):=⟨_, rfl⟩
   have hsz : arr.size = s.size + k:=by rw [harr]; simp
   have hI1:=inv_drew hI
   have hm:=hn h.n (Nat.le_refl _) (Nat.lt_succ_self _)
   have hI2:=hI1.new_cells hm hgl (e:=e) (es:=1) (by unfold szD; rw [hinf]; exact hs1) arr (s.size + k, s.size + k + 1) (fun o ho x => by rw [hsz] at ho; omega) (s.data.toList.map fun b => Value.int .u8 b.toNat) (by rw [hsz, List.length_map, ← Lib.size_eq]; omega) (fun j c hj => by
     rw [List.getElem?_map] at hj
     obtain ⟨b, hb, rfl⟩:=Option.map_eq_some_iff.1 hj
     obtain ⟨hlt, hb2⟩:=List.getElem?_eq_some_iff.1 hb
     rw [Array.length_toList] at hlt
     refine ⟨.int .u8 b.toNat, ?_, .int _ _⟩
     rw [harr, Array.getElem?_append_left (by simpa using hlt), Array.getElem?_map, ← Array.getElem?_toList, hb]
     rfl)
   refine ⟨.slice (some ⟨w.heap.size, 0, none⟩) s.size (s.size + k), w.drew.alloc (.cells arr e (s.size + k, s.size + k + 1)), fupd ι h.n (some ⟨w.heap.size, 0, arr.size, 1⟩), ?_, ?_, ?_, .slice _ _ _ _ _ _ _ (fupd_eq _ _ _) (by omega) (.inl rfl) (.inl ⟨rfl, by simp only; rw [hsz]; omega⟩)⟩
   · have hsh : (w.drew.alloc (.cells arr e)).shape? w.drew.heap.size = some (e, arr.size):=by
       simp only [World.shape?, alloc_new w.drew (.cells arr e)]
     have hfz : (w.drew.alloc (.cells arr e)).freeze { block:=w.heap.size, off:=arr.size } 1 = w.drew.alloc (.cells arr e (s.size + k, s.size + k + 1)):=by
       unfold World.freeze
       rw [if_neg (by omega)]
       refine World.same (Array.ext_getElem? fun j => ?_) rfl rfl rfl rfl
       rw [Array.getElem?_modify]
       show (if w.heap.size = j then Option.map _ ((w.heap.push _)[j]?) else (w.heap.push _)[j]?) = (w.heap.push _)[j]?
       by_cases hj : w.heap.size = j
       · subst hj
         simp [hsz]
       · rw [if_neg hj, Array.getElem?_push, Array.getElem?_push, if_neg (fun x => hj x.symm), if_neg (fun x => hj x.symm)]
     simp only [convert, Sem.run_bind, run_underlying h1, run_underlying h2, Result.andThen_ok, run_underlying hu, Conv.stringToBytes, run_choose, Question.forced, Bool.false_eq_true, if_false, hk, Nat.add_sub_cancel_left]
     rw [← harr]
     simp only [newRow, Sem.run_bind, run_newObj, Result.andThen_ok, Sem.run_pure, markStringish, run_shape]
     have hsh' : World.shape? { heap:=Array.push w.heap (Obj.cells arr e), tape:=w.tape, drawn:=w.drawn + 1, os:=w.os, output:=w.output } w.heap.size = some (e, arr.size):=hsh
     rw [hsh']
     simp only [run_freeze, Sem.run_bind, Result.andThen_ok, Sem.run_pure]
     exact congrArg _ hfz
   · rw [Tr.get_set_fun]; exact Turn.new hm _ _
   · rw [Tr.get_set_fun]; exact hI2
 · rename_i e x0 h1 h2
   split at ha
   rotate_left
   · cases ha
   rename_i n cs a l c hu hco
   split at ha
   rotate_left
   · cases ha
   rename_i bl hbl
   cases ha
   obtain ⟨x1, x2, arr, x3, x4⟩:=cellsOf_ok hI hx hco
   have hcs : ∀ b : List Value, ARel ι cs.toArray b.toArray → bytesOf b = some bl:=by
     have key : ∀ (a b : List Value) (q : List UInt8), a.length = b.length → (∀ (j : Nat) (c : Value), a[j]? = some c → ∃ v, b[j]? = some v ∧ VRel ι c v) → bytesOf a = some q → bytesOf b = some q:=by
       intro a
       induction a with
       | nil => intro b q hl _ hq; cases b with
         | nil => exact hq
         | cons => simp at hl
       | cons y ys ih =>
         intro b q hl hr hq
         cases b with
         | nil => simp at hl
         | cons z zs =>
         obtain ⟨v, hv, hyz⟩:=hr 0 y rfl
         simp at hv
         subst hv
         unfold bytesOf at hq
         split at hq
         · rename_i e; cases e
         · rename_i m r e
           cases e
           cases hyz
           split at hq
           · rename_i l' hl'
             cases hq
             unfold bytesOf
             rw [ih zs l' (by simpa using hl) (fun j c hj => by simpa using hr (j + 1) c (by simpa using hj)) hl']
           · cases hq
         · cases hq
     intro b hb
     exact key cs b bl (by have:=hb.1; simpa using this) (fun j c hj => by
       obtain ⟨v, p, q⟩:=hb.get (i:=j) (v:=c) (by simpa using hj)
       exact ⟨v, by simpa using p, q⟩) hbl
   have hb2:=hcs arr.toList (by simpa using x4)
   refine ⟨.string ⟨⟨bl⟩⟩, w, ι, ?_, Turn.refl _ _ _, hI, .string _⟩
   cases hx with
   | nilSlice =>
     unfold cellsOf at hco
     cases hco
     cases hbl
     simp only [convert, Sem.run_bind, run_underlying h1, run_underlying h2, Result.andThen_ok, run_underlying hu, Conv.bytesToString]
     rfl
   | slice id off len c cap i ra hi hl hc hxx =>
     have hld : (loadCells ra l).run P w = .ok arr w:=by
       have hnl : (Builtin.lenOf (.slice (some ra) l cap)).run P w = .ok n w:=x1
       cases hnl
       simp only [Builtin.firstCells, Nat.mul_one] at x3
       exact x3
     simp only [convert, Sem.run_bind, run_underlying h1, run_underlying h2, Result.andThen_ok, run_underlying hu, Conv.bytesToString, hld]
     rw [← Array.forIn_toList, bytesToString_run (P:=P) _ (fun _ _ => rfl) arr.toList bl ByteArray.empty hb2 w]
     rfl
 · cases ha
end
end Go.Proofs.YtacknhbgfijkcaaGreatDoor.Abs
end
section
/- The engine, part 9: one operation of the walk. -/
namespace Go.Proofs.YtacknhbgfijkcaaGreatDoor.Abs
open Go Go.RowKit
section
variable {P : Program} {base : Nat} {w0 : Start} {ι : Nat → Option Loc} {H : Nat → Option AObj} {w w' : World}
noncomputable def alen (P : Program) (h : Hp) (t : TypeId) (x : Value) : Option Value :=
 match P.underlying t, x with
 | some .string, .string s => some (.int .i64 s.size)
 | some (.array n _), _ => some (.int .i64 n)
 | some (.slice _), .slice _ n _ => some (.int .i64 n)
 | some (.map _ _), m => match entries h m with
   | some es => some (.int .i64 es.length)
   | none => none
 | _, _ => none
theorem alen_ok {h : Hp} {t : TypeId} {argTypes : Array TypeId} {ty : TypeId} {x x' v : Value} (hI : Inv P base w0 ι h.t.get w) (ht : argTypes[0]? = some t) (hx : VRel ι x x') (ha : alen P h t x = some v) : (Builtin.len_ argTypes ty #[x']).run P w = .ok v w ∧ flat v = true:=by
 unfold alen at ha
 split at ha
 · rename_i s hu
   cases hx; cases ha
   refine ⟨?_, rfl⟩
   simp [Builtin.len_, ht, run_underlying hu, goInt]
 · rename_i n e hu
   cases ha
   refine ⟨?_, rfl⟩
   simp [Builtin.len_, ht, run_underlying hu, goInt]
 · rename_i e a n c hu
   cases ha
   cases hx <;> (refine ⟨?_, rfl⟩; simp [Builtin.len_, ht, run_underlying hu, goInt])
 · rename_i k e hu
   split at ha
   rotate_left
   · cases ha
   rename_i es hes
   cases ha
   refine ⟨?_, rfl⟩
   unfold entries at hes
   split at hes
   · cases hx; cases hes
     simp [Builtin.len_, ht, run_underlying hu, goInt]
   · split at hes
     · rename_i id es0 clock wr hg
       cases hes
       cases hx with
       | map _ i hi =>
       obtain ⟨es', e1, e2, _⟩:=hI.obj _ _ _ hi hg
       have hl : es.length = es'.size:=e2.length.trans Array.length_toList
       simp [Builtin.len_, ht, run_underlying hu, goInt, run_getObj e1, hl]
     · cases hes
   · cases hes
 · cases ha
noncomputable def acap (P : Program) (t : TypeId) (x : Value) : Option Value :=
 match P.underlying t, x with
 | some (.slice _), .slice none 0 0 => some (.int .i64 0)
 | some (.slice _), .slice (some _) _ (c + 1) => some (.int .i64 c)
 | _, _ => none
theorem acap_ok {t : TypeId} {argTypes : Array TypeId} {ty : TypeId} {x x' v : Value} (ht : argTypes[0]? = some t) (hx : VRel ι x x') (ha : acap P t x = some v) (w : World) : (Builtin.cap_ argTypes ty #[x']).run P w = .ok v w ∧ flat v = true:=by
 unfold acap at ha
 split at ha
 · rename_i e hu
   cases hx; cases ha
   refine ⟨?_, rfl⟩
   simp [Builtin.cap_, ht, run_underlying hu, goInt]
 · rename_i e a n c hu
   cases ha
   refine ⟨?_, rfl⟩
   cases hx with
   | slice _ _ _ _ cap _ _ _ _ hc _ =>
   obtain rfl : cap = c:=by omega
   simp [Builtin.cap_, ht, run_underlying hu, goInt]
 · cases ha
noncomputable def abuiltin (P : Program) (h : Hp) (b : Builtin) (argTypes : Array TypeId) (args : List Value) : Option (Value × Hp) :=
 match b, args with
 | .append, [s, x] => aappend P h argTypes s x
 | .len, [x] => match argTypes[0]? with
   | some t => match alen P h t x with
     | some v => some (v, h)
     | none => none
   | none => none
 | .cap, [x] => match argTypes[0]? with
   | some t => match acap P t x with
     | some v => some (v, h)
     | none => none
   | none => none
 | .min, xs => if xs.all scalar = true then match pureRun P (Builtin.min_ argTypes 0 xs.toArray) with
     | some v => if flat v = true then some (v, h) else none
     | none => none
   else none
 | .max, xs => if xs.all scalar = true then match pureRun P (Builtin.max_ argTypes 0 xs.toArray) with
     | some v => if flat v = true then some (v, h) else none
     | none => none
   else none
 | _, _ => none
noncomputable def LRel (ι : Nat → Option Loc) : List Value → List Value → Prop
 | [], [] => True
 | a :: as, b :: bs => VRel ι a b ∧ LRel ι as bs
 | _, _ => False
theorem LRel.length : ∀ {a b : List Value}, LRel ι a b → a.length = b.length
 | [], [], _ => rfl
 | _ :: _, _ :: _, ⟨_, h⟩ => by simp [LRel.length h]
theorem LRel.get : ∀ {a b : List Value}, LRel ι a b → ∀ {i : Nat} {x : Value}, a[i]? = some x → ∃ y, b[i]? = some y ∧ VRel ι x y
 | [], [], _, i, x, h => by simp at h
 | a :: as, b :: bs, ⟨h1, h⟩, 0, x, hx => by
   simp at hx
   subst hx
   exact ⟨b, rfl, h1⟩
 | a :: as, b :: bs, ⟨_, h⟩, i + 1, x, hx => by
   rw [List.getElem?_cons_succ] at hx ⊢
   exact LRel.get h hx
theorem LRel.arr {a b : List Value} (h : LRel ι a b) : ARel ι a.toArray b.toArray :=
 ARel.of_get (by simp [h.length]) fun i v hv => by
   obtain ⟨y, h1, h2⟩:=h.get (i:=i) (x:=v) (by simpa using hv)
   exact ⟨y, by simpa using h1, h2⟩
theorem LRel.scalars : ∀ {a b : List Value}, LRel ι a b → a.all scalar = true → b = a
 | [], [], _, _ => rfl
 | a :: as, b :: bs, ⟨h1, h⟩, hs => by
   rw [List.all_cons, Bool.and_eq_true] at hs
   rw [h1.scalar_eq hs.1, LRel.scalars h hs.2]
theorem abuiltin_ok {h h' : Hp} {b : Builtin} {argTypes : Array TypeId} {ty : TypeId} {consts : Array Bool} {args args' : List Value} {v : Value} (hI : Inv P base w0 ι h.t.get w) (hn : ∀ id, h.n ≤ id → id < h'.n → ι id = none) (hgl : P.globals.size ≤ h.n) (hr : LRel ι args args') (ha : abuiltin P h b argTypes args = some (v, h')) :
   ∃ v' w' ι', (builtin b argTypes ty consts args'.toArray).run P w = .ok (.value v') w' ∧ Turn ι h.n h.t.get ι' h'.n h'.t.get ∧ Inv P base w0 ι' h'.t.get w' ∧ VRel ι' v v':=by
 unfold abuiltin at ha
 split at ha
 · rename_i s x
   match args', hr with
   | [s', x'], ⟨h1, h2, _⟩ =>
   obtain ⟨v', w', ι', r1, r2⟩:=aappend_ok (ty:=ty) hI hn hgl h1 h2 ha
   exact ⟨v', w', ι', by simp only [builtin, Sem.run_bind, r1, Result.andThen_ok, Sem.run_pure], r2⟩
 · rename_i x
   match args', hr with
   | [x'], ⟨h1, _⟩ =>
   split at ha
   · rename_i t ht
     split at ha
     · rename_i u hu
       cases ha
       obtain ⟨r1, r2⟩:=alen_ok (ty:=ty) hI ht h1 hu
       exact ⟨v, w, ι, by simp only [builtin, Sem.run_bind, r1, Result.andThen_ok, Sem.run_pure], Turn.refl _ _ _, hI, VRel.of_flat r2⟩
     · cases ha
   · cases ha
 · rename_i x
   match args', hr with
   | [x'], ⟨h1, _⟩ =>
   split at ha
   · rename_i t ht
     split at ha
     · rename_i u hu
       cases ha
       obtain ⟨r1, r2⟩:=acap_ok (ty:=ty) ht h1 hu w
       exact ⟨v, w, ι, by simp only [builtin, Sem.run_bind, r1, Result.andThen_ok, Sem.run_pure], Turn.refl _ _ _, hI, VRel.of_flat r2⟩
     · cases ha
   · cases ha
 · split at ha
   · rename_i hsc
     split at ha
     · rename_i u hp
       split at ha
       · rename_i hf
         cases ha
         rw [hr.scalars hsc]
         have hr2 : (Builtin.min_ argTypes ty args.toArray).run P w = .ok v w:=pureRun_ok hp w
         exact ⟨v, w, ι, by simp only [builtin, Sem.run_bind, hr2, Result.andThen_ok, Sem.run_pure], Turn.refl _ _ _, hI, VRel.of_flat hf⟩
       · cases ha
     · cases ha
   · cases ha
 · split at ha
   · rename_i hsc
     split at ha
     · rename_i u hp
       split at ha
       · rename_i hf
         cases ha
         rw [hr.scalars hsc]
         have hr2 : (Builtin.max_ argTypes ty args.toArray).run P w = .ok v w:=pureRun_ok hp w
         exact ⟨v, w, ι, by simp only [builtin, Sem.run_bind, hr2, Result.andThen_ok, Sem.run_pure], Turn.refl _ _ _, hI, VRel.of_flat hf⟩
       · cases ha
     · cases ha
   · cases ha
 · cases ha
noncomputable def aev (P : Program) (E : Tr Value) (h : Hp) : Operand → Option Value
 | .tmp t => match E.get t with
   | some v => some v
   | none => some undef
 | .const v => if flat v = true then some v else none
 | .global g => if g < P.globals.size ∧ (h.t.get g).isSome = true then some (.pointer (some ⟨g, 0, none⟩)) else none
 | .func f => some (.func (.func f) #[] #[])
noncomputable def EnvRel (ι : Nat → Option Loc) (E : Tr Value) (tmps : Array Value) : Prop:=∀ t, VRel ι ((E.get t).getD undef) (tmps.getD t undef)
theorem EnvRel.grow {ι ι' : Nat → Option Loc} (hg : Grows ι ι') {E : Tr Value} {tmps : Array Value} (h : EnvRel ι E tmps) : EnvRel ι' E tmps:=fun t => (h t).grow hg
theorem undef_rel : VRel ι undef undef:=VRel.of_flat rfl
theorem aev_ok {E : Tr Value} {h : Hp} {a : Act} {x : Operand} {v : Value} (hI : Inv P base w0 ι h.t.get w) (hE : EnvRel ι E a.tmps) (ha : aev P E h x = some v) : VRel ι v (a.eval x):=by
 cases x with
 | tmp t =>
   dsimp only [aev] at ha
   have:=hE t
   split at ha
   · rename_i u hu
     cases ha
     rw [hu] at this
     exact this
   · rename_i hu
     cases ha
     rw [hu] at this
     exact this
 | const u =>
   dsimp only [aev] at ha
   split at ha
   · rename_i hf
     cases ha
     exact VRel.of_flat hf
   · cases ha
 | global g =>
   dsimp only [aev] at ha
   split at ha
   · rename_i hc
     cases ha
     obtain ⟨i, h1, h2, h3⟩:=hI.glob g hc.1 hc.2
     have:=VRel.ptr (ι:=ι) g 0 i h1
     rw [h2, h3] at this
     exact this
   · cases ha
 | func f =>
   cases ha
   exact .func _ _ _ _ _ rfl (fun i x _ => by simp at x) rfl (fun i x _ => by simp at x)
noncomputable def aevs (P : Program) (E : Tr Value) (h : Hp) : List Operand → Option (List Value)
 | [] => some []
 | x :: xs => match aev P E h x, aevs P E h xs with
   | some v, some vs => some (v :: vs)
   | _, _ => none
theorem aevs_ok {E : Tr Value} {h : Hp} {a : Act} (hI : Inv P base w0 ι h.t.get w) (hE : EnvRel ι E a.tmps) : ∀ {xs : List Operand} {vs : List Value}, aevs P E h xs = some vs → LRel ι vs (xs.map a.eval)
 | [], vs, ha => by cases ha; trivial
 | x :: xs, vs, ha => by
   unfold aevs at ha
   split at ha
   · rename_i v us h1 h2
     cases ha
     exact ⟨aev_ok hI hE h1, aevs_ok hI hE h2⟩
   · cases ha
noncomputable def aevp (P : Program) (E : Tr Value) (h : Hp) : List (Nat × Operand) → Option (List (Nat × Value))
 | [] => some []
 | x :: xs => match aev P E h x.2, aevp P E h xs with
   | some v, some vs => some ((x.1, v) :: vs)
   | _, _ => none
theorem aevp_ok {E : Tr Value} {h : Hp} {a : Act} (hI : Inv P base w0 ι h.t.get w) (hE : EnvRel ι E a.tmps) : ∀ {xs : List (Nat × Operand)} {vs : List (Nat × Value)}, aevp P E h xs = some vs →
   vs.length = (xs.map fun p => (p.1, a.eval p.2)).length ∧ ∀ (j : Nat) (p : Nat × Value), vs[j]? = some p → ∃ p', (xs.map fun p => (p.1, a.eval p.2))[j]? = some p' ∧ p'.1 = p.1 ∧ VRel ι p.2 p'.2
 | [], vs, ha => by cases ha; exact ⟨rfl, fun j p h => by simp at h⟩
 | x :: xs, vs, ha => by
   unfold aevp at ha
   split at ha
   · rename_i v us h1 h2
     cases ha
     obtain ⟨l1, l2⟩:=aevp_ok hI hE h2
     refine ⟨by simp at l1 ⊢; exact l1, fun j p hj => ?_⟩
     cases j with
     | zero =>
       simp at hj
       subst hj
       exact ⟨_, rfl, rfl, aev_ok hI hE h1⟩
     | succ j =>
       rw [List.getElem?_cons_succ] at hj
       obtain ⟨p', q1, q2⟩:=l2 j p hj
       exact ⟨p', by rw [List.map_cons, List.getElem?_cons_succ]; exact q1, q2⟩
   · cases ha
noncomputable def aevo (P : Program) (E : Tr Value) (h : Hp) : Option Operand → Option (Option Value)
 | none => some none
 | some x => match aev P E h x with
   | some v => some (some v)
   | none => none
theorem aevo_ok {E : Tr Value} {h : Hp} {a : Act} (hI : Inv P base w0 ι h.t.get w) (hE : EnvRel ι E a.tmps) {x : Option Operand} {v : Option Value} (ha : aevo P E h x = some v) : ORelV ι v (x.map a.eval):=by
 cases x with
 | none => cases ha; trivial
 | some x =>
   dsimp only [aevo] at ha
   split at ha
   · rename_i u h1
     cases ha
     exact aev_ok hI hE h1
   · cases ha
inductive ARes where
 | val (v : Value) (h : Hp)
 | call (f : FuncId) (args : Array Value)
 | pan (v : Value)
noncomputable def rv (h : Hp) : Option Value → Option ARes
 | some v => some (.val v h)
 | none => none
noncomputable def rvh : Option (Value × Hp) → Option ARes
 | some (v, h) => some (.val v h)
 | none => none
noncomputable def rh : Option Hp → Option ARes
 | some h => some (.val undef h)
 | none => none
noncomputable def with1 {α : Type} (x : Option Value) (f : Value → Option α) : Option α :=
 match x with
 | some v => f v
 | none => none
theorem with1_some {α : Type} {x : Option Value} {f : Value → Option α} {r : α} (h : with1 x f = some r) : ∃ v, x = some v ∧ f v = some r:=by
 unfold with1 at h
 split at h
 · exact ⟨_, rfl, h⟩
 · cases h
noncomputable def nilOk : Value → Bool
 | .pointer (some _) => true
 | .func (.func _) _ _ => true
 | .iface _ _ => true
 | _ => false
noncomputable def enterOk (P : Program) (f : FuncId) : Bool :=
 match P.funcs[f]? with
 | some fn => fn.body.isSome
 | none => false
noncomputable def opMove (P : Program) (E : Tr Value) (h : Hp) (x : Operand) : Option ARes :=
 rv h (aev P E h x)
noncomputable def opAssign (P : Program) (E : Tr Value) (h : Hp) (x : Operand) : Option ARes :=
 rv h (aev P E h x)
noncomputable def opPick (P : Program) (E : Tr Value) (h : Hp) (c : Operand) (a : Operand) (b : Operand) : Option ARes :=
 with1 (aev P E h c) fun
   | .bool true => rv h (aev P E h a)
   | .bool false => rv h (aev P E h b)
   | _ => none
noncomputable def opAlloc (P : Program) (E : Tr Value) (h : Hp) (e : TypeId) : Option ARes :=
 with1 (azero P e) fun z => rvh (abox P e h z)
noncomputable def opBox (P : Program) (E : Tr Value) (h : Hp) (e : TypeId) (x : Operand) : Option ARes :=
 with1 (aev P E h x) fun v => rvh (abox P e h v)
noncomputable def opBuild (P : Program) (E : Tr Value) (h : Hp) (t : TypeId) (ps : Array (Nat × Operand)) : Option ARes :=
 match aevp P E h ps.toList with
   | some vs => rv h (abuild P t vs)
   | none => none
noncomputable def opBuildslice (P : Program) (E : Tr Value) (h : Hp) (t : TypeId) (n : Nat) (ps : Array (Nat × Operand)) : Option ARes :=
 match aevp P E h ps.toList with
   | some vs => rvh (abuildSlice P t n vs h)
   | none => none
noncomputable def opLoad (P : Program) (E : Tr Value) (h : Hp) (t : TypeId) (x : Operand) : Option ARes :=
 with1 (aev P E h x) fun p => rv h (aload P t h p)
noncomputable def opStore (P : Program) (E : Tr Value) (h : Hp) (t : TypeId) (x : Operand) (y : Operand) : Option ARes :=
 with1 (aev P E h x) fun p => with1 (aev P E h y) fun v => rh (astore P t h p v)
noncomputable def opNilcheck (P : Program) (E : Tr Value) (h : Hp) (x : Operand) : Option ARes :=
 with1 (aev P E h x) fun v => if nilOk v = true then rv h (some v) else none
noncomputable def opBinop (P : Program) (E : Tr Value) (h : Hp) (op : BinOp) (t : TypeId) (x : Operand) (y : Operand) : Option ARes :=
 with1 (aev P E h x) fun a => with1 (aev P E h y) fun b => rv h (abin2 P op t x y a b)
noncomputable def opUnop (P : Program) (E : Tr Value) (h : Hp) (op : UnOp) (x : Operand) : Option ARes :=
 with1 (aev P E h x) fun v => if scalar v = true then with1 (pureRun P (Op.unary op v)) fun r => if flat r = true then rv h (some r) else none else none
noncomputable def opConvert (P : Program) (E : Tr Value) (h : Hp) (s : TypeId) (d : TypeId) (x : Operand) : Option ARes :=
 with1 (aev P E h x) fun v => rvh (aconvert P s d h v)
noncomputable def opMakeinterface (P : Program) (E : Tr Value) (h : Hp) (t : TypeId) (x : Operand) : Option ARes :=
 with1 (aev P E h x) fun v => match P.underlying t with
   | some (.interface _) => none
   | some _ => rv h (some (.iface t v))
   | none => none
noncomputable def opMakefunc (P : Program) (E : Tr Value) (h : Hp) (fn : Fn) (first : Array Operand) (cap : Array Operand) : Option ARes :=
 match aevs P E h first.toList, aevs P E h cap.toList with
   | some vs, some cs => rv h (some (.func fn vs.toArray cs.toArray))
   | _, _ => none
noncomputable def opMakeMap (P : Program) (E : Tr Value) (h : Hp) (t : TypeId) : Option ARes :=
 some (.val (.map (some h.n)) ⟨h.t.set h.n (some (.map [] 0 true)), h.n + 1⟩)
noncomputable def opMakeslice (P : Program) (E : Tr Value) (h : Hp) (t : TypeId) (l : Operand) (c : Operand) : Option ARes :=
 with1 (aev P E h l) fun x => with1 (aev P E h c) fun y => rvh (amakeSlice P t h x y)
noncomputable def opSlice (P : Program) (E : Tr Value) (h : Hp) (t : TypeId) (x : Operand) (lo : Option Operand) (hi : Option Operand) (mx : Option Operand) : Option ARes :=
 with1 (aev P E h x) fun v => match aevo P E h lo, aevo P E h hi, aevo P E h mx with
   | some a, some b, some c => rv h (aslice P t h v a b c)
   | _, _, _ => none
noncomputable def opFieldaddr (P : Program) (E : Tr Value) (h : Hp) (s : TypeId) (x : Operand) (f : Nat) : Option ARes :=
 with1 (aev P E h x) fun v => rv h (afieldAddr P s f v)
noncomputable def opField (P : Program) (E : Tr Value) (h : Hp) (t : TypeId) (x : Operand) (f : Nat) : Option ARes :=
 with1 (aev P E h x) fun v => rv h (afield P t f v)
noncomputable def opIndexaddr (P : Program) (E : Tr Value) (h : Hp) (t : TypeId) (x : Operand) (i : Operand) : Option ARes :=
 with1 (aev P E h x) fun v => with1 (aev P E h i) fun k => rv h (aindexAddr P t v k)
noncomputable def opIndex (P : Program) (E : Tr Value) (h : Hp) (t : TypeId) (x : Operand) (i : Operand) : Option ARes :=
 with1 (aev P E h x) fun v => with1 (aev P E h i) fun k => rv h (aindex P t v k)
noncomputable def opLookup (P : Program) (E : Tr Value) (h : Hp) (t : TypeId) (x : Operand) (i : Operand) (ok : Bool) : Option ARes :=
 with1 (aev P E h x) fun v => with1 (aev P E h i) fun k => rv h (alookup P t h v k ok)
noncomputable def opMapupdate (P : Program) (E : Tr Value) (h : Hp) (t : TypeId) (m : Operand) (k : Operand) (v : Operand) : Option ARes :=
 with1 (aev P E h m) fun m => with1 (aev P E h k) fun k => with1 (aev P E h v) fun v => rh (amapUpdate P t h m k v)
noncomputable def opInsert (P : Program) (E : Tr Value) (h : Hp) (t : TypeId) (m : Operand) (k : Operand) (v : Operand) : Option ARes :=
 with1 (aev P E h m) fun m => with1 (aev P E h k) fun k => with1 (aev P E h v) fun v => rh (amapUpdate P t h m k v)
noncomputable def opMapentry (P : Program) (E : Tr Value) (h : Hp) (t : TypeId) (m : Operand) (k : Operand) : Option ARes :=
 with1 (aev P E h m) fun m => with1 (aev P E h k) fun k => rvh (amapEntry P t h m k)
noncomputable def opEntrystore (P : Program) (E : Tr Value) (h : Hp) (t : TypeId) (m : Operand) (s : Operand) (v : Operand) : Option ARes :=
 with1 (aev P E h m) fun m => with1 (aev P E h s) fun s => with1 (aev P E h v) fun v => rh (aentryStore h m s v)
noncomputable def opExtract (P : Program) (E : Tr Value) (h : Hp) (x : Operand) (i : Nat) : Option ARes :=
 with1 (aev P E h x) fun
   | .tuple vs => rv h vs[i]?
   | _ => none
noncomputable def opCall (P : Program) (E : Tr Value) (h : Hp) (c : Call) : Option ARes :=
 match c.callee with
   | .builtin b => match aevs P E h c.args.toList with
     | some vs => rvh (abuiltin P h b c.argTypes vs)
     | none => none
   | .value f => with1 (aev P E h f) fun
     | .func (.func g) first cap => if enterOk P g = true then match aevs P E h c.args.toList with
       | some vs => some (.call g (first ++ vs.toArray ++ cap))
       | none => none
       else none
     | _ => none
   | _ => none
noncomputable def opPanic (P : Program) (E : Tr Value) (h : Hp) (x : Operand) : Option ARes :=
 with1 (aev P E h x) fun v => match v with
   | .iface _ _ => some (.pan v)
   | _ => none
noncomputable def aop (P : Program) (E : Tr Value) (h : Hp) (op : Op) : Option ARes :=
 match op with
 | .move x => opMove P E h x
 | .assign x => opAssign P E h x
 | .pick c a b => opPick P E h c a b
 | .alloc e => opAlloc P E h e
 | .box e x => opBox P E h e x
 | .build t ps => opBuild P E h t ps
 | .buildSlice t n ps => opBuildslice P E h t n ps
 | .load t x => opLoad P E h t x
 | .store t x y => opStore P E h t x y
 | .nilCheck x => opNilcheck P E h x
 | .binOp op t x y _ => opBinop P E h op t x y
 | .unOp op _ x => opUnop P E h op x
 | .convert s d x => opConvert P E h s d x
 | .makeInterface t x => opMakeinterface P E h t x
 | .makeFunc fn first cap => opMakefunc P E h fn first cap
 | .makeMap t none => opMakeMap P E h t
 | .makeSlice t l c => opMakeslice P E h t l c
 | .slice t x lo hi mx => opSlice P E h t x lo hi mx
 | .fieldAddr s x f => opFieldaddr P E h s x f
 | .field t x f => opField P E h t x f
 | .indexAddr t x i => opIndexaddr P E h t x i
 | .index t x i => opIndex P E h t x i
 | .lookup t x i ok => opLookup P E h t x i ok
 | .mapUpdate t m k v => opMapupdate P E h t m k v
 | .insert t m k v => opInsert P E h t m k v
 | .mapEntry t m k => opMapentry P E h t m k
 | .entryStore t m s v => opEntrystore P E h t m s v
 | .extract x i => opExtract P E h x i
 | .call c => opCall P E h c
 | .panic x => opPanic P E h x
 | _ => none
end
end Go.Proofs.YtacknhbgfijkcaaGreatDoor.Abs
end
section
/- The engine, part 10: what the sketch says of one operation is what the program does. -/
namespace Go.Proofs.YtacknhbgfijkcaaGreatDoor.Abs
open Go Go.RowKit
section
variable {P : Program} {base : Nat} {w0 : Start} {ι : Nat → Option Loc} {w : World}
noncomputable def noNG (P : Program) : Bool := P.funcs.all fun fn => !(fn.name == "runtime.NumGoroutine")
noncomputable def Out (P : Program) (base : Nat) (w0 : Start) (ι : Nat → Option Loc) (h : Hp) (w : World) (run : Result Next) : ARes → Prop
 | .val v h' => ∃ v' w' ι', (run = .ok (.value v') w' ∨ (run = .ok .skip w' ∧ v' = undef)) ∧ Turn ι h.n h.t.get ι' h'.n h'.t.get ∧ Inv P base w0 ι' h'.t.get w' ∧ VRel ι' v v'
 | .call f args => ∃ args', run = .ok (.enter f args') w ∧ ARel ι args args'
 | .pan v => ∃ v', run = .halt (.panic v') w ∧ VRel ι v v'
theorem out_rv {h : Hp} {x : Option Value} {r : ARes} {s : Sem Value} (hI : Inv P base w0 ι h.t.get w) (ha : rv h x = some r) (hs : ∀ v, x = some v → ∃ v', s.run P w = .ok v' w ∧ VRel ι v v') :
   Out P base w0 ι h w ((do pure (Next.value (← s)) : Sem Next).run P w) r:=by
 unfold rv at ha
 split at ha
 · cases ha
   obtain ⟨v', h1, h2⟩:=hs _ rfl
   exact ⟨v', w, ι, .inl (by simp only [Sem.run_bind, h1, Result.andThen_ok, Sem.run_pure]), Turn.refl _ _ _, hI, h2⟩
 · cases ha
theorem out_rvh {h : Hp} {x : Option (Value × Hp)} {r : ARes} {s : Sem Value} (ha : rvh x = some r)
   (hs : ∀ v h', x = some (v, h') → r = .val v h' → ∃ v' w' ι', s.run P w = .ok v' w' ∧ Turn ι h.n h.t.get ι' h'.n h'.t.get ∧ Inv P base w0 ι' h'.t.get w' ∧ VRel ι' v v') :
   Out P base w0 ι h w ((do pure (Next.value (← s)) : Sem Next).run P w) r:=by
 unfold rvh at ha
 split at ha
 · cases ha
   obtain ⟨v', w', ι', h1, h2⟩:=hs _ _ rfl rfl
   exact ⟨v', w', ι', .inl (by simp only [Sem.run_bind, h1, Result.andThen_ok, Sem.run_pure]), h2⟩
 · cases ha
theorem out_rh {h : Hp} {x : Option Hp} {r : ARes} {s : Sem Unit} (ha : rh x = some r) (hs : ∀ h', x = some h' → ∃ w', s.run P w = .ok () w' ∧ Turn ι h.n h.t.get ι h'.n h'.t.get ∧ Inv P base w0 ι h'.t.get w') :
   Out P base w0 ι h w ((do s; pure Next.skip : Sem Next).run P w) r:=by
 unfold rh at ha
 split at ha
 · cases ha
   obtain ⟨w', h1, h2, h3⟩:=hs _ rfl
   exact ⟨undef, w', ι, .inr ⟨by simp only [Sem.run_bind, h1, Result.andThen_ok, Sem.run_pure], rfl⟩, h2, h3, undef_rel⟩
 · cases ha
theorem eval_pairs (a : Act) (ps : Array (Nat × Operand)) : (ps.map fun (i, x) => (i, a.eval x)) = ((ps.toList.map fun p => (p.1, a.eval p.2))).toArray:=by
 apply Array.toList_inj.1
 simp
theorem eval_args (a : Act) (xs : Array Operand) : xs.map a.eval = (xs.toList.map a.eval).toArray:=by
 apply Array.toList_inj.1
 simp
theorem unary_run {op : UnOp} {v r : Value} (h : pureRun P (Op.unary op v) = some r) (w : World) : (Op.unary op v).run P w = .ok r w:=pureRun_ok h w
set_option maxHeartbeats 4000000 in
theorem aop_ok {E : Tr Value} {h : Hp} {o : Oper} {a : Act} {r : ARes} (hP : noNG P = true) (hI : Inv P base w0 ι h.t.get w) (hE : EnvRel ι E a.tmps) (hgl : P.globals.size ≤ h.n)
   (hf : ∀ v h', r = .val v h' → ∀ id, h.n ≤ id → id < h'.n → ι id = none) (ha : aop P E h o.op = some r) : Out P base w0 ι h w ((execOp a.eval o).run P w) r:=by
 obtain ⟨dst, op, ty, pos, aft, gd⟩:=o
 simp only at ha ⊢
 cases op with
 | move x =>
   dsimp only [aop, opMove] at ha
   have:=out_rv (s:=pure (a.eval x)) hI ha fun v hv => ⟨a.eval x, rfl, aev_ok hI hE hv⟩
   exact this
 | assign x =>
   dsimp only [aop, opAssign] at ha
   have:=out_rv (s:=pure (a.eval x)) hI ha fun v hv => ⟨a.eval x, rfl, aev_ok hI hE hv⟩
   exact this
 | pick c x y =>
   dsimp only [aop, opPick] at ha
   obtain ⟨cv, hc, ha⟩:=with1_some ha
   have hcr:=aev_ok hI hE hc
   split at ha
   · have:=out_rv (s:=pure (a.eval x)) hI ha fun v hv => ⟨a.eval x, rfl, aev_ok hI hE hv⟩
     generalize hq : a.eval c = q at hcr
     cases hcr
     simpa [execOp, hq, asBool] using this
   · have:=out_rv (s:=pure (a.eval y)) hI ha fun v hv => ⟨a.eval y, rfl, aev_ok hI hE hv⟩
     generalize hq : a.eval c = q at hcr
     cases hcr
     simpa [execOp, hq, asBool] using this
   · cases ha
 | alloc e =>
   dsimp only [aop, opAlloc] at ha
   obtain ⟨z, hz, ha⟩:=with1_some ha
   refine out_rvh (s:=Instr.alloc e true (.tuple #[])) ha fun v h' hv hr => ?_
   obtain ⟨z1, z2, _⟩:=azero_ok hz w
   obtain ⟨p', w', ι', r1, r2⟩:=abox_ok hI (hf v h' hr) hgl (VRel.of_flat z2) hv
   refine ⟨p', w', ι', ?_, r2⟩
   simp only [Instr.alloc, Sem.run_bind, z1, Result.andThen_ok]
   exact r1
 | box e x =>
   dsimp only [aop, opBox] at ha
   obtain ⟨xv, hx, ha⟩:=with1_some ha
   exact out_rvh (s:=Instr.box e (a.eval x)) ha fun v h' hv hr => abox_ok hI (hf v h' hr) hgl (aev_ok hI hE hx) hv
 | build t ps =>
   dsimp only [aop, opBuild] at ha
   split at ha
   · rename_i vs hvs
     obtain ⟨l1, l2⟩:=aevp_ok hI hE hvs
     have:=out_rv (s:=Instr.build t (ps.map fun (i, x) => (i, a.eval x))) hI ha fun v hv => by rw [eval_pairs]; exact abuild_ok l1 l2 hv w
     exact this
   · cases ha
 | buildSlice t n ps =>
   dsimp only [aop, opBuildslice] at ha
   split at ha
   · rename_i vs hvs
     obtain ⟨l1, l2⟩:=aevp_ok hI hE hvs
     exact out_rvh (s:=Instr.buildSlice t n (ps.map fun (i, x) => (i, a.eval x))) ha fun v h' hv hr => by rw [eval_pairs]; exact abuildSlice_ok hI (hf v h' hr) hgl l1 l2 hv
   · cases ha
 | load t x =>
   dsimp only [aop, opLoad] at ha
   obtain ⟨xv, hx, ha⟩:=with1_some ha
   exact out_rv (s:=Instr.loadAt t (a.eval x)) hI ha fun v hv => aload_ok hI (aev_ok hI hE hx) hv
 | store t x y =>
   dsimp only [aop, opStore] at ha
   obtain ⟨xv, hx, ha⟩:=with1_some ha
   obtain ⟨yv, hy, ha⟩:=with1_some ha
   exact out_rh (s:=Instr.storeAt t (a.eval x) (a.eval y)) ha fun h' hv => astore_ok hI (aev_ok hI hE hx) (aev_ok hI hE hy) hv
 | nilCheck x =>
   dsimp only [aop, opNilcheck] at ha
   obtain ⟨xv, hx, ha⟩:=with1_some ha
   split at ha
   · rename_i hok
     have hr:=aev_ok hI hE hx
     have:=out_rv (s:=pure (a.eval x)) hI ha fun v hv => by cases hv; exact ⟨_, rfl, hr⟩
     generalize hq : a.eval x = q at hr this
     cases hr <;> first | (cases hok; done) | (simpa [execOp, hq] using this) | (rename_i fn f f' c c' h1 h2 h3 h4; cases fn <;> first | (cases hok; done) | (simpa [execOp, hq] using this))
   · cases ha
 | binOp op t x y yt =>
   dsimp only [aop, opBinop] at ha
   obtain ⟨xv, hx, ha⟩:=with1_some ha
   obtain ⟨yv, hy, ha⟩:=with1_some ha
   exact out_rv (s:=do eqGuard op t x y (a.eval x) (a.eval y); binOp op t (a.eval x) (a.eval y)) hI ha fun v hv => by
     exact abin2_ok hv (aev_ok hI hE hx) (aev_ok hI hE hy) w
 | unOp op t x =>
   dsimp only [aop, opUnop] at ha
   obtain ⟨xv, hx, ha⟩:=with1_some ha
   split at ha
   · rename_i hs
     obtain ⟨u, hu, ha⟩:=with1_some ha
     split at ha
     · rename_i hfl
       have hr:=aev_ok hI hE hx
       have he:=hr.scalar_eq hs
       exact out_rv (s:=Op.unary op (a.eval x)) hI ha fun v hv => by cases hv; rw [he]; exact ⟨_, unary_run hu w, VRel.of_flat hfl⟩
     · cases ha
   · cases ha
 | convert s d x =>
   dsimp only [aop, opConvert] at ha
   obtain ⟨xv, hx, ha⟩:=with1_some ha
   exact out_rvh (s:=convert s d (a.eval x)) ha fun v h' hv hr => aconvert_ok hI (hf v h' hr) hgl (aev_ok hI hE hx) hv
 | makeInterface t x =>
   dsimp only [aop, opMakeinterface] at ha
   obtain ⟨xv, hx, ha⟩:=with1_some ha
   split at ha
   · cases ha
   · rename_i d hd hu
     refine out_rv (s:=Instr.makeInterface t (a.eval x)) hI ha fun v hv => ?_
     cases hv
     refine ⟨.iface t (a.eval x), ?_, .iface _ _ _ (aev_ok hI hE hx)⟩
     simp only [Instr.makeInterface, Sem.run_bind, run_underlying hu, Result.andThen_ok]
     cases d <;> first | rfl | exact absurd rfl (hd _)
   · cases ha
 | makeFunc fn first cap =>
   dsimp only [aop, opMakefunc] at ha
   split at ha
   · rename_i vs cs h1 h2
     have r1:=(aevs_ok hI hE h1).arr
     have r2:=(aevs_ok hI hE h2).arr
     refine out_rv (s:=Instr.makeFunc fn (first.map a.eval) (cap.map a.eval)) hI ha fun v hv => ?_
     cases hv
     rw [eval_args, eval_args]
     exact ⟨_, rfl, .func _ _ _ _ _ r1.1 r1.2 r2.1 r2.2⟩
   · cases ha
 | makeMap t s =>
   cases s with
   | some s => cases ha
   | none =>
     dsimp only [aop, opMakeMap] at ha
     cases ha
     have hm:=hf _ _ rfl h.n (Nat.le_refl _) (Nat.lt_succ_self _)
     refine ⟨.map (some w.heap.size), w.alloc (.map #[] 0), fupd ι h.n (some ⟨w.heap.size, 0, 0, 0⟩), .inl rfl, ?_, ?_, .map h.n ⟨w.heap.size, 0, 0, 0⟩ (fupd_eq _ _ _)⟩
     · rw [Tr.get_set_fun]; exact Turn.new hm _ _
     · rw [Tr.get_set_fun]; exact hI.new_map hm hgl 0
 | makeSlice t l c =>
   dsimp only [aop, opMakeslice] at ha
   obtain ⟨xv, hx, ha⟩:=with1_some ha
   obtain ⟨yv, hy, ha⟩:=with1_some ha
   exact out_rvh (s:=Instr.makeSlice t (a.eval l) (a.eval c)) ha fun v h' hv hr => amakeSlice_ok hI (hf v h' hr) hgl (aev_ok hI hE hx) (aev_ok hI hE hy) hv
 | slice t x lo hi mx =>
   dsimp only [aop, opSlice] at ha
   obtain ⟨xv, hx, ha⟩:=with1_some ha
   split at ha
   · rename_i p q s h1 h2 h3
     exact out_rv (s:=Instr.sliceAt t (a.eval x) (lo.map a.eval) (hi.map a.eval) (mx.map a.eval)) hI ha fun v hv => aslice_ok hI (aev_ok hI hE hx) (aevo_ok hI hE h1) (aevo_ok hI hE h2) (aevo_ok hI hE h3) hv
   · cases ha
 | fieldAddr s x f =>
   dsimp only [aop, opFieldaddr] at ha
   obtain ⟨xv, hx, ha⟩:=with1_some ha
   exact out_rv (s:=Instr.fieldAt s (a.eval x) f) hI ha fun v hv => afieldAddr_ok (aev_ok hI hE hx) hv w
 | field t x f =>
   dsimp only [aop, opField] at ha
   obtain ⟨xv, hx, ha⟩:=with1_some ha
   exact out_rv (s:=Instr.field t (a.eval x) f) hI ha fun v hv => afield_ok (aev_ok hI hE hx) hv w
 | indexAddr t x i =>
   dsimp only [aop, opIndexaddr] at ha
   obtain ⟨xv, hx, ha⟩:=with1_some ha
   obtain ⟨yv, hy, ha⟩:=with1_some ha
   exact out_rv (s:=Instr.indexAt t (a.eval x) (a.eval i)) hI ha fun v hv => aindexAddr_ok (aev_ok hI hE hx) (aev_ok hI hE hy) hv w
 | index t x i =>
   dsimp only [aop, opIndex] at ha
   obtain ⟨xv, hx, ha⟩:=with1_some ha
   obtain ⟨yv, hy, ha⟩:=with1_some ha
   exact out_rv (s:=Instr.index t (a.eval x) (a.eval i)) hI ha fun v hv => aindex_ok (aev_ok hI hE hx) (aev_ok hI hE hy) hv w
 | lookup t x i c =>
   dsimp only [aop, opLookup] at ha
   obtain ⟨xv, hx, ha⟩:=with1_some ha
   obtain ⟨yv, hy, ha⟩:=with1_some ha
   exact out_rv (s:=Instr.lookup t (a.eval x) (a.eval i) c) hI ha fun v hv => alookup_ok hI (aev_ok hI hE hx) (aev_ok hI hE hy) hv
 | mapUpdate t m k v =>
   dsimp only [aop, opMapupdate] at ha
   obtain ⟨mv, hm, ha⟩:=with1_some ha
   obtain ⟨kv, hk, ha⟩:=with1_some ha
   obtain ⟨vv, hv, ha⟩:=with1_some ha
   exact out_rh (s:=Instr.mapUpdate t (a.eval m) (a.eval k) (a.eval v)) ha fun h' hh => amapUpdate_ok hI (aev_ok hI hE hm) (aev_ok hI hE hk) (aev_ok hI hE hv) hh
 | insert t m k v =>
   dsimp only [aop, opInsert] at ha
   obtain ⟨mv, hm, ha⟩:=with1_some ha
   obtain ⟨kv, hk, ha⟩:=with1_some ha
   obtain ⟨vv, hv, ha⟩:=with1_some ha
   exact out_rh (s:=Instr.mapUpdate t (a.eval m) (a.eval k) (a.eval v)) ha fun h' hh => amapUpdate_ok hI (aev_ok hI hE hm) (aev_ok hI hE hk) (aev_ok hI hE hv) hh
 | mapEntry t m k =>
   dsimp only [aop, opMapentry] at ha
   obtain ⟨mv, hm, ha⟩:=with1_some ha
   obtain ⟨kv, hk, ha⟩:=with1_some ha
   exact out_rvh (s:=Instr.mapEntry t (a.eval m) (a.eval k)) ha fun v h' hv hr => by
     obtain ⟨v', w', r1, r2⟩:=amapEntry_ok hI (aev_ok hI hE hm) (aev_ok hI hE hk) hv
     exact ⟨v', w', ι, r1, r2⟩
 | entryStore t m s v =>
   dsimp only [aop, opEntrystore] at ha
   obtain ⟨mv, hm, ha⟩:=with1_some ha
   obtain ⟨kv, hk, ha⟩:=with1_some ha
   obtain ⟨vv, hv, ha⟩:=with1_some ha
   exact out_rh (s:=Instr.entryStore t (a.eval m) (a.eval s) (a.eval v)) ha fun h' hh => aentryStore_ok hI (aev_ok hI hE hm) (aev_ok hI hE hk) (aev_ok hI hE hv) hh
 | extract x i =>
   dsimp only [aop, opExtract] at ha
   obtain ⟨xv, hx, ha⟩:=with1_some ha
   have hr:=aev_ok hI hE hx
   split at ha
   · rename_i vs
     refine out_rv (s:=Instr.extract (a.eval x) i) hI ha fun v hv => ?_
     generalize a.eval x = q at hr
     cases hr with
     | tuple c c' h1 h2 =>
     obtain ⟨v', p1, p2⟩:=ARel.get ⟨h1, h2⟩ hv
     exact ⟨v', by simp only [Instr.extract, p1, Sem.run_pure], p2⟩
   · cases ha
 | call c =>
   dsimp only [aop, opCall] at ha
   obtain ⟨callee, args, argTypes⟩:=c
   cases callee with
   | builtin b =>
     dsimp only at ha
     split at ha
     · rename_i vs hvs
       have hr:=aevs_ok hI hE hvs
       unfold rvh at ha
       split at ha
       · rename_i v h' hb
         cases ha
         obtain ⟨v', w', ι', r1, r2⟩:=abuiltin_ok (ty:=ty) (consts:=args.map fun | .const _ => true | _ => false) hI (hf v h' rfl) hgl hr hb
         refine ⟨v', w', ι', .inl ?_, r2⟩
         simp only [execOp, resolve, Sem.run_bind, Sem.run_pure, Result.andThen_ok, invoke]
         rw [eval_args]
         exact r1
       · cases ha
     · cases ha
   | value f =>
     dsimp only at ha
     obtain ⟨fv, hfv, ha⟩:=with1_some ha
     have hr:=aev_ok hI hE hfv
     split at ha
     · rename_i g first cap
       split at ha
       · rename_i hen
         split at ha
         · rename_i vs hvs
           cases ha
           have hrs:=(aevs_ok hI hE hvs).arr
           generalize hq : a.eval f = q at hr
           cases hr with
           | func fn f1 f1' c1 c1' h1 h2 h3 h4 =>
           refine ⟨f1' ++ (args.toList.map a.eval).toArray ++ c1', ?_, ?_⟩
           · unfold enterOk at hen
             split at hen
             · rename_i fn hfn
               have hng : (fn.name == "runtime.NumGoroutine") = false := by
                 have hp:=hP
                 unfold noNG at hp
                 rw [Array.all_eq_true_iff_forall_mem] at hp
                 have:=hp fn (Array.mem_of_getElem? hfn)
                 simpa using this
               have hbn : fn.body.isNone = false:=by
                 cases hb : fn.body with
                 | none => rw [hb] at hen; cases hen
                 | some x => rfl
               simp only [execOp, resolve, Sem.run_bind, hq, Deferred.ofValue, Sem.run_pure, Result.andThen_ok, invoke, callFunc, run_program, hfn, hng, hbn, Bool.false_eq_true, if_false]
               rw [eval_args]
             · cases hen
           · have e1 : ARel ι first f1':=⟨h1, h2⟩
             have e2 : ARel ι cap c1':=⟨h3, h4⟩
             have app : ∀ {x x' y y' : Array Value}, ARel ι x x' → ARel ι y y' → ARel ι (x ++ y) (x' ++ y'):=by
               intro x x' y y' hx hy
               refine ARel.of_get (by simp [hx.1, hy.1]) fun i v hv => ?_
               by_cases hi : i < x.size
               · rw [Array.getElem?_append_left hi] at hv
                 obtain ⟨v', p, q⟩:=hx.get hv
                 exact ⟨v', by rw [Array.getElem?_append_left (hx.1 ▸ hi)]; exact p, q⟩
               · rw [Array.getElem?_append_right (by omega)] at hv
                 obtain ⟨v', p, q⟩:=hy.get hv
                 exact ⟨v', by rw [Array.getElem?_append_right (by rw [← hx.1]; omega), ← hx.1]; exact p, q⟩
             exact app (app e1 hrs) e2
         · cases ha
       · cases ha
     · cases ha
   | invoke rcv m => cases ha
 | panic x =>
   dsimp only [aop, opPanic] at ha
   obtain ⟨xv, hx, ha⟩:=with1_some ha
   have hr:=aev_ok hI hE hx
   split at ha
   · cases ha
     generalize hq : a.eval x = q at hr
     refine ⟨q, ?_, hr⟩
     cases hr
     simp [execOp, hq, Instr.panic]
   · cases ha
 | _ => cases ha
end
end Go.Proofs.YtacknhbgfijkcaaGreatDoor.Abs
end
section
/- The engine, the walk: operations in a row, code, calls. -/
namespace Go.Proofs.YtacknhbgfijkcaaGreatDoor.Abs
open Go Go.RowKit
inductive CRet where
 | ret (v : Value)
 | pan (v : Value)
inductive AExit where
 | normal
 | exit (id : Nat)
 | ret
 | pan (v : Value)
structure ASt where
 E : Tr Value
 h : Hp
abbrev CallF:=FuncId → List Value → Hp → Option (CRet × Hp)
noncomputable def aguard (E : Tr Value) (ops : Array Oper) (o : Oper) : Bool :=
 match o.guard with
 | none => true
 | some (j, want) =>
   match (ops[j]?).bind (·.dst) with
   | some t => match E.get t with
     | some (.bool b) => b == want
     | _ => false
   | none => false
noncomputable def aput (lim : Nat) (E : Tr Value) (d : Option Tmp) (v : Value) : Option (Tr Value) :=
 match d with
 | some t => if t < lim then some (E.set t (some v)) else none
 | none => some E
noncomputable def aops (P : Program) (cf : CallF) (lim : Nat) (ops : Array Oper) : List Oper → ASt → Option (AExit × ASt)
 | [], s => some (.normal, s)
 | o :: rest, s =>
   if aguard s.E ops o = true then
     match aop P s.E s.h o.op with
     | some (.val v h) => match aput lim s.E o.dst v with
       | some E => aops P cf lim ops rest ⟨E, h⟩
       | none => none
     | some (.call f args) => match cf f args.toList s.h with
       | some (.ret v, h) => match aput lim s.E o.dst v with
         | some E => aops P cf lim ops rest ⟨E, h⟩
         | none => none
       | some (.pan v, h) => some (.pan v, ⟨s.E, h⟩)
       | none => none
     | some (.pan v) => some (.pan v, s)
     | none => none
   else match aput lim s.E o.dst undef with
     | some E => aops P cf lim ops rest ⟨E, s.h⟩
     | none => none
noncomputable def args0 : List Value → Nat → Tr Value → Tr Value
 | [], _, E => E
 | v :: vs, i, E => args0 vs (i + 1) (E.set i (some v))
noncomputable def ares (P : Program) (s : ASt) : List ResultVar → Option (List Value)
 | [] => some []
 | .tmp t :: r => match ares P s r with
   | some vs => some ((match s.E.get t with | some v => v | none => undef) :: vs)
   | none => none
 | .cell t ty :: r => match aload P ty s.h (match s.E.get t with | some v => v | none => undef), ares P s r with
   | some v, some vs => some (v :: vs)
   | _, _ => none
noncomputable def aresults (P : Program) (fd : Func) (s : ASt) : Option Value :=
 match ares P s fd.results.toList with
 | some [v] => some v
 | some vs => some (.tuple vs.toArray)
 | none => none
noncomputable def eqAd : Option Addr → Option Addr → Bool
 | none, none => true
 | some ⟨b, o, none⟩, some ⟨b', o', none⟩ => Nat.beq b b' && Nat.beq o o'
 | _, _ => false
noncomputable def eqOn : Option Nat → Option Nat → Bool
 | none, none => true
 | some a, some b => Nat.beq a b
 | _, _ => false
noncomputable def eqZ : Int → Int → Bool
 | .ofNat m, .ofNat n => Nat.beq m n
 | .negSucc m, .negSucc n => Nat.beq m n
 | _, _ => false
noncomputable def eqS : Value → Value → Bool
 | .bool a, .bool b => a == b
 | .int k a, .int k' b => decide (k = k') && eqZ a b
 | .string a, .string b => beqB a b
 | .pointer a, .pointer b => eqAd a b
 | .slice a n c, .slice a' n' c' => eqAd a a' && Nat.beq n n' && Nat.beq c c'
 | .map a, .map b => eqOn a b
 | .nilFunc, .nilFunc => true
 | .nilIface, .nilIface => true
 | .complex .f32 a b, .complex .f32 a' b' => Nat.beq a a' && Nat.beq b b'
 | .func (.func g) ⟨[]⟩ ⟨[]⟩, .func (.func g') ⟨[]⟩ ⟨[]⟩ => Nat.beq g g'
 | _, _ => false
noncomputable def eqF : Value → Value → Bool
 | .iface t a, .iface t' b => Nat.beq t t' && eqS a b
 | a, b => eqS a b
noncomputable def eqL1 : List Value → List Value → Bool
 | [], [] => true
 | a :: l, b :: r => eqF a b && eqL1 l r
 | _, _ => false
noncomputable def eqV1 : Value → Value → Bool
 | .agg a, .agg b => eqL1 a.toList b.toList
 | a, b => eqF a b
noncomputable def eqL2 : List Value → List Value → Bool
 | [], [] => true
 | a :: l, b :: r => eqV1 a b && eqL2 l r
 | _, _ => false
noncomputable def eqV : Value → Value → Bool
 | .tuple a, .tuple b => eqL2 a.toList b.toList
 | a, b => eqV1 a b
noncomputable def noGl (l : List Operand) : Bool:=l.all fun x => match x with | .global _ => false | _ => true
noncomputable def pureOp : Op → Bool
 | .move x => noGl [x]
 | .assign x => noGl [x]
 | .pick c a b => noGl [c, a, b]
 | .build _ ps => noGl (ps.toList.map (·.2))
 | .binOp _ _ x y _ => noGl [x, y]
 | .unOp _ _ x => noGl [x]
 | .makeInterface _ x => noGl [x]
 | .fieldAddr _ x _ => noGl [x]
 | .field _ x _ => noGl [x]
 | .indexAddr _ x i => noGl [x, i]
 | .index _ x i => noGl [x, i]
 | .extract x _ => noGl [x]
 | .nilCheck x => noGl [x]
 | _ => false
noncomputable def allocOp : Op → Bool
 | .alloc _ => true
 | .box _ x => noGl [x]
 | .buildSlice _ _ ps => noGl (ps.toList.map (·.2))
 | .makeSlice _ l c => noGl [l, c]
 | _ => false
noncomputable def lookOp : Op → Bool
 | .load _ _ => true
 | .lookup _ _ _ _ => true
 | .slice _ _ _ _ _ => true
 | .call { callee:=.builtin .len, .. } => true
 | .call { callee:=.builtin .cap, .. } => true
 | .call { callee:=.builtin .min, .. } => true
 | .call { callee:=.builtin .max, .. } => true
 | .move _ => true
 | .assign _ => true
 | .pick _ _ _ => true
 | .binOp _ _ _ _ _ => true
 | .fieldAddr _ _ _ => true
 | .field _ _ _ => true
 | .indexAddr _ _ _ => true
 | .index _ _ _ => true
 | .extract _ _ => true
 | _ => false
noncomputable def isCh (op : Op) : Bool:=!(pureOp op || allocOp op || lookOp op)
def needsOf (o : Oper) : List Nat:=(o.after.toList.filter (fun e => Region.binds .any e)).map (fun e => e.on)
def needsAt (ops : Array Oper) (i : Nat) : List Nat:=match ops[i]? with
 | some o => needsOf o
 | none => []
noncomputable def bitN (t : Nat) : Nat:=Nat.shiftLeft 1 t
noncomputable def bitAt (m t : Nat) : Bool:=Nat.beq (Nat.land (Nat.shiftRight m t) 1) 1
noncomputable def maskN (B : List Nat) : List Nat → Nat
 | [] => 0
 | n :: r => Nat.lor (Nat.lor (bitN n) (B.getD n 0)) (maskN B r)
noncomputable def ancL (ops : Array Oper) : Nat → List Nat
 | 0 => []
 | k + 1 => ancL ops k ++ [maskN (ancL ops k) (needsAt ops k)]
noncomputable def ancOf (B : List Nat) (d i : Nat) : Bool:=bitAt (B.getD d 0) i
def opAt (ops : Array Oper) (i : Nat) : Op:=match ops[i]? with
 | some o => o.op
 | none => .move (.const (.bool false))
def dstAt (ops : Array Oper) (i : Nat) : Option Tmp:=(ops[i]?).bind (·.dst)
noncomputable def readyN (ops : Array Oper) (listed i : Nat) : Bool:=!(bitAt listed i) && (needsAt ops i).all fun n => bitAt listed n
noncomputable def planD (ops : Array Oper) : Nat → Nat → List Nat
 | 0, _ => []
 | k + 1, listed => match (List.range ops.size).find? fun i => readyN ops listed i && !(isCh (opAt ops i)) with
   | some i => i :: planD ops k (Nat.lor listed (bitN i))
   | none => match (List.range ops.size).find? fun i => readyN ops listed i with
     | some i => i :: planD ops k (Nat.lor listed (bitN i))
     | none => []
noncomputable def usesD (ops : Array Oper) (i j : Nat) : Bool:=match ops[i]?, dstAt ops j with
 | some o, some d => (o.looksAt ops).contains d
 | _, _ => false
noncomputable def chkGo (ops : Array Oper) (B : List Nat) (lim : Nat) : List Nat → List Nat → Bool
 | _, [] => true
 | l, i :: r => Nat.ble (Nat.succ i) ops.size && !(l.contains i) && (needsAt ops i).all (fun n => l.contains n && Nat.ble (Nat.succ n) i) &&
   (l.all fun k => !(isCh (opAt ops k)) || ancOf B i k) &&
   (l.all fun k => match dstAt ops k, dstAt ops i with | some a, some b => !(Nat.beq a b) | _, _ => true) &&
   (l.all fun k => (!(usesD ops i k) || ancOf B i k) && (!(usesD ops k i) || ancOf B i k)) &&
   (match dstAt ops i with | some d => Nat.ble (Nat.succ d) lim | none => true) &&
   chkGo ops B lim (i :: l) r
noncomputable def chkD (ops : Array Oper) (lim : Nat) (σ : List Nat) : Bool:=(List.range ops.size).all (fun i => σ.contains i) && chkGo ops (ancL ops ops.size) lim [] σ
structure Pend where
 i : Nat
 op : Op
 E : Tr Value
 v : Value
noncomputable def pendOk (P : Program) (h : Hp) (l : List Pend) : Bool:=l.all fun p => match aop P p.E h p.op with
 | some (.val v _) => eqV v p.v
 | _ => false
noncomputable def chRun (P : Program) (cf : CallF) (ops : Array Oper) (o : Oper) (E : Tr Value) (h : Hp) : Option (Value × Hp) :=
 if aguard E ops o = true then
   match aop P E h o.op with
   | some (.val v h') => some (v, h')
   | some (.call f args) => match cf f args.toList h with
     | some (.ret v, h') => some (v, h')
     | _ => none
   | _ => none
 else some (undef, h)
noncomputable def flRun (P : Program) (ops : Array Oper) (o : Oper) (E : Tr Value) (h : Hp) : Option (Value × Hp) :=
 if aguard E ops o = true then
   match aop P E h o.op with
   | some (.val v h') => some (v, h')
   | _ => none
 else some (undef, h)
noncomputable def isLook (ops : Array Oper) (o : Oper) (E : Tr Value) : Bool:=aguard E ops o && !(pureOp o.op || allocOp o.op)
noncomputable def drawGo (P : Program) (cf : CallF) (lim : Nat) (ops : Array Oper) (B : List Nat) : List Nat → Tr Value → Hp → List Pend → Option (AExit × ASt)
 | [], E, h, l => if pendOk P h l = true then some (.normal, ⟨E, h⟩) else none
 | i :: r, E, h, l => match ops[i]? with
   | none => none
   | some o => match isCh o.op with
     | true => if pendOk P h l = true then
         match chRun P cf ops o E h with
         | some (v, h') => match aput lim E o.dst v with
           | some E1 => drawGo P cf lim ops B r E1 h' (l.filter fun p => !(ancOf B i p.i))
           | none => none
         | none => none
       else none
     | false => match flRun P ops o E h with
       | some (v, h') => match aput lim E o.dst v with
         | some E1 => drawGo P cf lim ops B r E1 h' (match isLook ops o E with | true => ⟨i, o.op, E, v⟩ :: l | false => l)
         | none => none
       | none => none
noncomputable def adraw (P : Program) (cf : CallF) (lim : Nat) (ops : Array Oper) (s : ASt) : Option (AExit × ASt) :=
 match planD ops ops.size 0 with
 | σ => match chkD ops lim σ with
   | true => drawGo P cf lim ops (ancL ops ops.size) σ s.E s.h []
   | false => none
inductive NTree (α : Type) where
 | none
 | ret (a : α)
 | br (b : Bool) (x y : NTree α)
namespace NTree
variable {α β : Type}
noncomputable def run : NTree α → Option α
 | none => .none
 | ret a => some a
 | br b x y => match b with
   | true => x.run
   | false => y.run
noncomputable def map (f : α → β) : NTree α → NTree β
 | none => none
 | ret a => ret (f a)
 | br b x y => br b (x.map f) (y.map f)
theorem run_map (f : α → β) : ∀ t : NTree α, (t.map f).run = t.run.map f
 | none => rfl
 | ret a => rfl
 | br b x y => by
   cases b
   · exact run_map f y
   · exact run_map f x
end NTree
abbrev Native:=List Value → Hp → NTree (CRet × Hp)
abbrev GivenT:=FuncId → Option Native
noncomputable def callBy (P : Program) (G : GivenT) (ex : Nat → Code → ASt → Option (AExit × ASt)) (f : FuncId) (args : List Value) (h : Hp) : Option (CRet × Hp) :=
 match G f with
 | some g => (g args h).run
 | none =>
   match P.funcs[f]? with
   | some fd =>
     match fd.body with
     | some c =>
       match ex fd.ntmps c ⟨args0 args 0 (.full (Nat.succ (Nat.log2 fd.ntmps))), h⟩ with
       | some (.normal, s) => match aresults P fd s with
         | some v => some (.ret v, s.h)
         | none => none
       | some (.ret, s) => match aresults P fd s with
         | some v => some (.ret v, s.h)
         | none => none
       | some (.pan v, s) => some (.pan v, s.h)
       | _ => none
     | none => none
   | none => none
noncomputable def exec (P : Program) (G : GivenT) : Nat → Nat → Code → ASt → Option (AExit × ASt)
 | 0 => fun _ _ _ => none
 | k + 1 => fun lim c s =>
   match c with
   | .skip => some (.normal, s)
   | .label _ => some (.normal, s)
   | .region _ ops false => aops P (callBy P G (exec P G k)) lim ops ops.toList s
   | .region _ ops true => adraw P (callBy P G (exec P G k)) lim ops s
   | .seq a b => match exec P G k lim a s with
     | some (.normal, s') => exec P G k lim b s'
     | r => r
   | .cond c a b => match aev P s.E s.h c with
     | some (.bool true) => exec P G k lim a s
     | some (.bool false) => exec P G k lim b s
     | _ => none
   | .block id b => match exec P G k lim b s with
     | some (.exit id', s') => if id' = id then some (.normal, s') else some (.exit id', s')
     | r => r
   | .loop b => match exec P G k lim b s with
     | some (.normal, s') => exec P G k lim (.loop b) s'
     | r => r
   | .exit id => some (.exit id, s)
   | .ret => some (.ret, s)
   | _ => none
noncomputable def call (P : Program) (G : GivenT) (k : Nat) : CallF:=callBy P G (exec P G k)
end Go.Proofs.YtacknhbgfijkcaaGreatDoor.Abs
end
