/- CookieBad: part 4 of its proof: CkF2, CkRun, DoorMet, CkRow, Open, CardCookieBad. -/
import Derived.Test.YtfmppmabnpkooaaDoorMCookieBad2
import Derived.Test.YtfmppmabnpkooaaDoorProg
import Derived.KernelRfl
import Derived.Test.YtfmppmabnpkooaaDoorMCookieBad3
import Derived.Test.YtfmppmabnpkooaaDoorCards
import Derived.LaidMore
import Derived.LaidOnce
import Derived.Lay
import Derived.MakeChecks
import Derived.Test.YtfmppmabnpkooaaDoorWArr
import Derived.Test.YtfmppmabnpkooaaDoorWWords
import Derived.SizedLaws
import Derived.ChangeArms
import Derived.OpenShut
import Derived.Deep.Slices
import Derived.Deep.Fields
import Derived.ChangeSame
import Derived.Test.YtfmppmabnpkooaaDoorTie
import Derived.WalkKit
import Derived.ProofKit
import Derived.ShutString
import Derived.ChangeOld
import Derived.Below
import Derived.SevenTiedAt
import Derived.Test.YtfmppmabnpkooaaDoorMCookieBad0
import Derived.Test.YtfmppmabnpkooaaDoorMCookieBad1
section
/- Functions of the program as terms of the quick engine; each is what its code comes to. -/
set_option autoImplicit false
set_option linter.unusedVariables false
set_option maxRecDepth 100000
namespace Go.Proofs.YtfmppmabnpkooaaDoor
open Go Go.RowKit Go.Proofs.YtfmppmabnpkooaaDoor.Abs
noncomputable def C9 (R : Ops) (C : Callees) : FnT 2 := fun v1 v2 v3 kr => R.bl 23 16 [(0, (.string ⟨⟨[83,101,99,117,114,101,61]⟩⟩)), (1, (.string ⟨⟨[83,101,99,117,114,101,61,49]⟩⟩)), (2, (.string ⟨⟨[72,116,116,112,79,110,108,121,61,120]⟩⟩)), (3, (.string ⟨⟨[83,97,109,101,83,105,116,101]⟩⟩)), (4, (.string ⟨⟨[83,97,109,101,83,105,116,101,61]⟩⟩)), (5, (.string ⟨⟨[83,97,109,101,83,105,116,101,61,110,111]⟩⟩)), (6, (.string ⟨⟨[80,97,116,104]⟩⟩)), (7, (.string ⟨⟨[80,97,116,104,61,120]⟩⟩)), (8, (.string ⟨⟨[80,97,116,104,61,47,65]⟩⟩)), (9, (.string ⟨⟨[68,111,109,97,105,110,61]⟩⟩)), (10, (.string ⟨⟨[68,111,109,97,105,110,61,116,101,115,116]⟩⟩)), (11, (.string ⟨⟨[68,111,109,97,105,110,61,98,46,116,101,115,116]⟩⟩)), (12, (.string ⟨⟨[68,111,109,97,105,110,61,99,46,97,46,116,101,115,116]⟩⟩)), (13, (.string ⟨⟨[77,97,120,45,65,103,101,61,53]⟩⟩)), (14, (.string ⟨⟨[61,120]⟩⟩)), (15, (.string ⟨⟨[83,97,109,101,83,105,116,101,61,78,111,110,101]⟩⟩))] v3 fun v4 v5 => C 30 2 v1 (.int .i64 (.ofNat 16)) v5 fun v6 v7 => R.bl 23 4 [(0, (.string ⟨⟨[]⟩⟩)), (1, (.string ⟨⟨[59,32,72,116,116,112,79,110,108,121]⟩⟩)), (2, (.string ⟨⟨[59,32,80,97,116,104,61,47,120]⟩⟩)), (3, (.string ⟨⟨[59,32,68,111,109,97,105,110,61,97,46,116,101,115,116]⟩⟩))] v7 fun v8 v9 => C 30 2 v2 (.int .i64 (.ofNat 4)) v9 fun va vb => R.xs 1 v8 va fun vc => R.l1 vb vc fun vd => R.jn (fun Je : Cur (Hp → Bool) 1 => R.bi .eql v6 (.int .i64 (.ofNat 2)) fun vf => R.jn (fun Jg : Cur (Hp → Bool) 1 => R.gd true vf (C 30 2 v2 (.int .i64 (.ofNat 4)) vb fun vh vi => R.bi .eql vh (.int .i64 (.ofNat 1)) fun vj => Jg vj vi) (Jg undef vb)) fun vk vl => R.pk vf vk (.bool false) fun vm => R.jn (fun Jn : Cur (Hp → Bool) 1 => R.gd false vm (R.bi .geq v6 (.int .i64 (.ofNat 6)) fun vo => Jn vo vl) (Jn undef vl)) fun vp vq => R.jn (fun Jr : Cur (Hp → Bool) 1 => R.gd true vp (R.bi .leq v6 (.int .i64 (.ofNat 8)) fun vs => Jr vs vq) (Jr undef vq)) fun vt vu => R.jn (fun Jv : Cur (Hp → Bool) 1 => R.gd false vm (R.pk vp vt (.bool false) fun vw => Jv vw vu) (Jv undef vu)) fun vx vy => R.jn (fun Jz : Cur (Hp → Bool) 1 => R.gd true vx (C 30 2 v2 (.int .i64 (.ofNat 4)) vy fun v10 v11 => R.bi .eql v10 (.int .i64 (.ofNat 2)) fun v12 => Jz v12 v11) (Jz undef vy)) fun v13 v14 => R.jn (fun J15 : Cur (Hp → Bool) 1 => R.gd false vm (R.pk vx v13 (.bool false) fun v16 => J15 v16 v14) (J15 undef v14)) fun v17 v18 => R.pk vm (.bool true) v17 fun v19 => R.jn (fun J1a : Cur (Hp → Bool) 1 => R.gd false v19 (R.bi .geq v6 (.int .i64 (.ofNat 9)) fun v1b => J1a v1b v18) (J1a undef v18)) fun v1c v1d => R.jn (fun J1e : Cur (Hp → Bool) 1 => R.gd true v1c (R.bi .leq v6 (.int .i64 (.ofNat 12)) fun v1f => J1e v1f v1d) (J1e undef v1d)) fun v1g v1h => R.jn (fun J1i : Cur (Hp → Bool) 1 => R.gd false v19 (R.pk v1c v1g (.bool false) fun v1j => J1i v1j v1h) (J1i undef v1h)) fun v1k v1l => R.jn (fun J1m : Cur (Hp → Bool) 1 => R.gd true v1k (C 30 2 v2 (.int .i64 (.ofNat 4)) v1l fun v1n v1o => R.bi .eql v1n (.int .i64 (.ofNat 3)) fun v1p => J1m v1p v1o) (J1m undef v1l)) fun v1q v1r => R.jn (fun J1s : Cur (Hp → Bool) 1 => R.gd false v19 (R.pk v1k v1q (.bool false) fun v1t => J1s v1t v1r) (J1s undef v1r)) fun v1u v1v => R.pk v19 (.bool true) v1u fun v1w => R.br v1w (Je (.string ⟨⟨[]⟩⟩) v1v) (Je vd v1v)) fun v1x v1y => R.xs 1 v4 v6 fun v1z => R.l1 v1y v1z fun v20 => R.bs .add v20 v1x fun v21 => C 32 2 (.string ⟨⟨[120,46,97,46,116,101,115,116]⟩⟩) v21 v1y fun v22 v23 => R.ex 0 v22 fun v24 => R.ex 1 v22 fun v25 => R.al 39 [(.string ⟨⟨[]⟩⟩), (.int .i64 (.ofNat 0)), (.string ⟨⟨[]⟩⟩), (.string ⟨⟨[]⟩⟩), (.bool false), (.bool false), (.int .i64 (.ofNat 0))] v23 fun v26 v27 => R.sn 7 v27 v26 v24 fun v28 v29 => C 32 2 (.string ⟨⟨[120,46,97,46,116,101,115,116]⟩⟩) v1x v29 fun v2a v2b => R.ex 0 v2a fun v2c => R.ex 1 v2a fun v2d => R.al 39 [(.string ⟨⟨[]⟩⟩), (.int .i64 (.ofNat 0)), (.string ⟨⟨[]⟩⟩), (.string ⟨⟨[]⟩⟩), (.bool false), (.bool false), (.int .i64 (.ofNat 0))] v2b fun v2e v2f => R.sn 7 v2f v2e v2c fun v2g v2h => R.bi .eql v6 (.int .i64 (.ofNat 0)) fun v2i => R.bv .eql 4 (.tmp 68) (.tmp 70) v25 v2i fun v2j => R.jn (fun J2k : Cur (Hp → Bool) 1 => R.gd true v2j (J2k v25 v2h) (J2k undef v2h)) fun v2l v2m => R.jn (fun J2n : Cur (Hp → Bool) 1 => R.gd false v2l (R.ln 7 v2m v26 fun v2o => R.bd 39 [] fun v2p => R.bv .eql 39 (.tmp 75) (.tmp 76) v2o v2p fun v2q => J2n v2q v2m) (J2n undef v2m)) fun v2r v2s => R.jn (fun J2t : Cur (Hp → Bool) 1 => R.gd true v2j (R.pk v2l (.bool true) v2r fun v2u => J2t v2u v2s) (J2t undef v2s)) fun v2v v2w => R.pk v2j v2v (.bool false) fun v2x => R.jn (fun J2y : Cur (Hp → Bool) 1 => R.gd true v2x (J2y v2d v2w) (J2y undef v2w)) fun v2z v30 => R.pk v2x v2z (.bool false) fun v31 => R.jn (fun J32 : Cur (Hp → Bool) 1 => R.gd true v31 (C 31 0 v30 fun v33 v34 => J32 v33 v34) (J32 undef v30)) fun v35 v36 => R.pk v31 v35 (.bool false) fun v37 => kr v37 v36
theorem C9_eq (R : Ops) (C : Callees) : C9 R C = fnOf Tryd.prog R C 2 Tryd.f9 (bodyOf Tryd.prog 9) := by kernel_rfl

noncomputable def C32 (R : Ops) (C : Callees) : FnT 2 := fun v1 v2 v3 kr => R.al 39 [(.string ⟨⟨[]⟩⟩), (.int .i64 (.ofNat 0)), (.string ⟨⟨[]⟩⟩), (.string ⟨⟨[]⟩⟩), (.bool false), (.bool false), (.int .i64 (.ofNat 0))] v3 fun v4 v5 => R.bd 39 [(3, (.string ⟨⟨[47]⟩⟩)), (6, (.int .i64 (.ofNat 2)))] fun v6 => R.al 39 [(.string ⟨⟨[]⟩⟩), (.int .i64 (.ofNat 0)), (.string ⟨⟨[]⟩⟩), (.string ⟨⟨[]⟩⟩), (.bool false), (.bool false), (.int .i64 (.ofNat 0))] v5 fun v7 v8 => R.sn 7 v8 v7 v6 fun v9 va => R.mm va fun vb vc => R.jn (fun Jd : Cur (Hp → Bool) 0 => C 20 1 v2 vc fun ve vf => R.lv ve fun vg => R.jn (fun Jh : Cur (Hp → Bool) 0 => R.lp 2 (fun Ji vj vk vl => R.bi .lss vk vg fun vm => R.jn (fun Jn : Cur (Hp → Bool) 0 => R.br vm (Jn vl) (Jh vl)) fun vo => R.jn (fun Jp : Cur (Hp → Bool) 1 => R.jn (fun Jq : Cur (Hp → Bool) 1 => R.xs 2 ve vk fun vr => R.ln 2 vo vr fun vs => R.al 29 [(.string ⟨⟨[]⟩⟩), (.string ⟨⟨[]⟩⟩)] vo fun vt vu => R.sn 2 vu vt vs fun vv vw => R.jn (fun Jx : Cur (Hp → Bool) 1 => R.xa 2 1 vt (.int .i64 (.ofNat 0)) fun vy => R.l1 vw vy fun vz => R.lk 72 vw vb vz false fun v10 => R.jn (fun J11 : Cur (Hp → Bool) 1 => R.gd false v10 (R.xa 2 1 vt (.int .i64 (.ofNat 0)) fun v12 => R.l1 vw v12 fun v13 => R.xa 2 1 vt (.int .i64 (.ofNat 1)) fun v14 => R.l1 vw v14 fun v15 => C 60 4 v7 v1 v13 v15 vw fun v16 v17 => R.nt v16 fun v18 => J11 v18 v17) (J11 undef vw)) fun v19 v1a => R.pk v10 (.bool true) v19 fun v1b => R.br v1b (R.bd 39 [] fun v1c => R.sn 7 v1a v4 v1c fun v1d v1e => R.ln 7 v1e v4 fun v1f => kr (.tuple ⟨[v1f, (.bool false)]⟩) v1e) (Jx vj v1a)) fun v1g v1h => R.xa 2 1 vt (.int .i64 (.ofNat 0)) fun v1i => R.l1 v1h v1i fun v1j => R.up 72 v1h vb v1j (.bool true) fun v1k v1l => Jq v1g v1l) fun v1m v1n => Jp v1m v1n) fun v1o v1p => R.bi .add vk (.int .i64 (.ofNat 1)) fun v1q => Ji v1o v1q v1p) fuel (.bool false) (.int .i64 (.ofNat 0)) vf) fun v1r => Jd v1r) fun v1s => R.jn (fun J1t : Cur (Hp → Bool) 0 => C 41 1 v1 v1s fun v1u v1v => R.nt v1u fun v1w => R.jn (fun J1x : Cur (Hp → Bool) 1 => R.gd false v1w (R.fa 6 v7 fun v1y => R.l1 v1v v1y fun v1z => R.bi .eql v1z (.int .i64 (.ofNat 1)) fun v20 => J1x v20 v1v) (J1x undef v1v)) fun v21 v22 => R.jn (fun J23 : Cur (Hp → Bool) 1 => R.gd true v21 (R.fa 4 v7 fun v24 => R.l1 v22 v24 fun v25 => R.nt v25 fun v26 => J23 v26 v22) (J23 undef v22)) fun v27 v28 => R.jn (fun J29 : Cur (Hp → Bool) 1 => R.gd false v1w (R.pk v21 v27 (.bool false) fun v2a => J29 v2a v28) (J29 undef v28)) fun v2b v2c => R.pk v1w (.bool true) v2b fun v2d => R.br v2d (R.bd 39 [] fun v2e => R.sn 7 v2c v4 v2e fun v2f v2g => R.ln 7 v2g v4 fun v2h => kr (.tuple ⟨[v2h, (.bool false)]⟩) v2g) (J1t v2c)) fun v2i => R.ln 7 v2i v7 fun v2j => R.sn 7 v2i v4 v2j fun v2k v2l => R.ln 7 v2l v4 fun v2m => kr (.tuple ⟨[v2m, (.bool true)]⟩) v2l
theorem C32_eq (R : Ops) (C : Callees) : C32 R C = fnOf Tryd.prog R C 2 Tryd.f32 (bodyOf Tryd.prog 32) := by kernel_rfl

noncomputable def C60 (R : Ops) (C : Callees) : FnT 4 := fun v1 v2 v3 v4 v5 kr => R.jn (fun J6 : Cur (Hp → Bool) 0 => R.jn (fun J7 : Cur (Hp → Bool) 0 => R.bs .eql v3 (.string ⟨⟨[100,111,109,97,105,110]⟩⟩) fun v8 => R.br v8 (R.nk v1 (R.fa 2 v1 fun v9 => R.s1 v5 v9 v4 fun va vb => C 87 2 v2 v4 vb fun vc vd => R.jn (fun Je : Cur (Hp → Bool) 1 => R.gd true vc (C 88 1 v4 vd fun vf vg => R.lv vf fun vh => R.bi .geq vh (.int .i64 (.ofNat 2)) fun vi => Je vi vg) (Je undef vd)) fun vj vk => R.pk vc vj (.bool false) fun vl => kr vl vk)) (R.bs .eql v3 (.string ⟨⟨[112,97,116,104]⟩⟩) fun vm => R.br vm (R.nk v1 (R.fa 3 v1 fun vn => R.s1 v5 vn v4 fun vo vp => C 43 1 v4 vp fun vq vr => kr vq vr)) (R.bs .eql v3 (.string ⟨⟨[115,101,99,117,114,101]⟩⟩) fun vs => R.br vs (R.nk v1 (R.fa 4 v1 fun vt => R.s1 v5 vt (.bool true) fun vu vv => R.bs .eql v4 (.string ⟨⟨[]⟩⟩) fun vw => kr vw vv)) (R.bs .eql v3 (.string ⟨⟨[104,116,116,112,111,110,108,121]⟩⟩) fun vx => R.br vx (R.nk v1 (R.fa 5 v1 fun vy => R.s1 v5 vy (.bool true) fun vz v10 => R.bs .eql v4 (.string ⟨⟨[]⟩⟩) fun v11 => kr v11 v10)) (R.bs .eql v3 (.string ⟨⟨[115,97,109,101,115,105,116,101]⟩⟩) fun v12 => R.br v12 (R.gl 0 v5 fun v13 => R.ln 4 v5 v13 fun v14 => R.jn (fun J15 : Cur (Hp → Bool) 0 => R.lp 2 (fun J16 v17 v18 v19 => R.bi .lss v18 (.int .i64 (.ofNat 4)) fun v1a => R.jn (fun J1b : Cur (Hp → Bool) 0 => R.br v1a (J1b v19) (J15 v19)) fun v1c => R.jn (fun J1d : Cur (Hp → Bool) 1 => R.jn (fun J1e : Cur (Hp → Bool) 1 => R.a1 4 1 v14 v18 fun v1f => R.bs .neq v1f (.string ⟨⟨[]⟩⟩) fun v1g => R.jn (fun J1h : Cur (Hp → Bool) 1 => R.gd true v1g (C 26 1 v1f v1c fun v1i v1j => C 26 1 v4 v1j fun v1k v1l => R.bs .eql v1i v1k fun v1m => J1h v1m v1l) (J1h undef v1c)) fun v1n v1o => R.pk v1g v1n (.bool false) fun v1p => R.br v1p (R.nk v1 (R.fa 6 v1 fun v1q => R.s1 v1o v1q v18 fun v1r v1s => kr (.bool true) v1s)) (J1e v17 v1o)) fun v1t v1u => J1d v1t v1u) fun v1v v1w => R.bi .add v18 (.int .i64 (.ofNat 1)) fun v1x => J16 v1v v1x v1w) fuel (.bool false) (.int .i64 (.ofNat 0)) v5) fun v1y => J7 v1y) (J7 v5)))))) fun v1z => J6 v1z) fun v20 => kr (.bool false) v20
theorem C60_eq (R : Ops) (C : Callees) : C60 R C = fnOf Tryd.prog R C 4 Tryd.f60 (bodyOf Tryd.prog 60) := by kernel_rfl

noncomputable def C43 (R : Ops) (C : Callees) : FnT 1 := fun v1 v2 kr => R.jn (fun J3 : Cur (Hp → Bool) 0 => R.ls v1 fun v4 => R.jn (fun J5 : Cur (Hp → Bool) 0 => R.lp 2 (fun J6 v7 v8 v9 => R.bi .lss v8 v4 fun va => R.jn (fun Jb : Cur (Hp → Bool) 0 => R.br va (Jb v9) (J5 v9)) fun vc => R.jn (fun Jd : Cur (Hp → Bool) 1 => R.jn (fun Je : Cur (Hp → Bool) 1 => R.ix v1 v8 fun vf => C 70 1 vf vc fun vg vh => R.nt vg fun vi => R.jn (fun Jj : Cur (Hp → Bool) 1 => R.gd true vi (R.ix v1 v8 fun vk => R.bi .neq vk (.int .u8 (.ofNat 47)) fun vl => Jj vl vh) (Jj undef vh)) fun vm vn => R.pk vi vm (.bool false) fun vo => R.jn (fun Jp : Cur (Hp → Bool) 1 => R.gd true vo (R.ix v1 v8 fun vq => R.bi .neq vq (.int .u8 (.ofNat 45)) fun vr => Jp vr vn) (Jp undef vn)) fun vs vt => R.pk vo vs (.bool false) fun vu => R.jn (fun Jv : Cur (Hp → Bool) 1 => R.gd true vu (R.ix v1 v8 fun vw => R.bi .neq vw (.int .u8 (.ofNat 95)) fun vx => Jv vx vt) (Jv undef vt)) fun vy vz => R.pk vu vy (.bool false) fun v10 => R.jn (fun J11 : Cur (Hp → Bool) 1 => R.gd true v10 (R.ix v1 v8 fun v12 => R.bi .neq v12 (.int .u8 (.ofNat 46)) fun v13 => J11 v13 vz) (J11 undef vz)) fun v14 v15 => R.pk v10 v14 (.bool false) fun v16 => R.br v16 (kr (.bool false) v15) (Je v7 v15)) fun v17 v18 => Jd v17 v18) fun v19 v1a => R.bi .add v8 (.int .i64 (.ofNat 1)) fun v1b => J6 v19 v1b v1a) fuel (.bool false) (.int .i64 (.ofNat 0)) v2) fun v1c => J3 v1c) fun v1d => R.bs .neq v1 (.string ⟨⟨[]⟩⟩) fun v1e => R.jn (fun J1f : Cur (Hp → Bool) 1 => R.gd true v1e (R.ix v1 (.int .i64 (.ofNat 0)) fun v1g => R.bi .eql v1g (.int .u8 (.ofNat 47)) fun v1h => J1f v1h v1d) (J1f undef v1d)) fun v1i v1j => R.pk v1e v1i (.bool false) fun v1k => R.jn (fun J1l : Cur (Hp → Bool) 1 => R.gd true v1k (R.ls v1 fun v1m => R.bi .leq v1m (.int .i64 (.ofNat 60)) fun v1n => J1l v1n v1j) (J1l undef v1j)) fun v1o v1p => R.pk v1k v1o (.bool false) fun v1q => kr v1q v1p
theorem C43_eq (R : Ops) (C : Callees) : C43 R C = fnOf Tryd.prog R C 1 Tryd.f43 (bodyOf Tryd.prog 43) := by kernel_rfl

noncomputable def C70 (R : Ops) (C : Callees) : FnT 1 := fun v1 v2 kr => R.bi .geq v1 (.int .u8 (.ofNat 97)) fun v3 => R.jn (fun J4 : Cur (Hp → Bool) 1 => R.gd true v3 (R.bi .leq v1 (.int .u8 (.ofNat 122)) fun v5 => J4 v5 v2) (J4 undef v2)) fun v6 v7 => R.pk v3 v6 (.bool false) fun v8 => R.jn (fun J9 : Cur (Hp → Bool) 1 => R.gd false v8 (R.bi .geq v1 (.int .u8 (.ofNat 48)) fun va => J9 va v7) (J9 undef v7)) fun vb vc => R.jn (fun Jd : Cur (Hp → Bool) 1 => R.gd true vb (R.bi .leq v1 (.int .u8 (.ofNat 57)) fun ve => Jd ve vc) (Jd undef vc)) fun vf vg => R.jn (fun Jh : Cur (Hp → Bool) 1 => R.gd false v8 (R.pk vb vf (.bool false) fun vi => Jh vi vg) (Jh undef vg)) fun vj vk => R.pk v8 (.bool true) vj fun vl => kr vl vk
theorem C70_eq (R : Ops) (C : Callees) : C70 R C = fnOf Tryd.prog R C 1 Tryd.f70 (bodyOf Tryd.prog 70) := by kernel_rfl

noncomputable def C87 (R : Ops) (C : Callees) : FnT 2 := fun v1 v2 v3 kr => C 41 1 v1 v3 fun v4 v5 => R.jn (fun J6 : Cur (Hp → Bool) 1 => R.gd true v4 (C 41 1 v2 v5 fun v7 v8 => J6 v7 v8) (J6 undef v5)) fun v9 va => R.pk v4 v9 (.bool false) fun vb => R.jn (fun Jc : Cur (Hp → Bool) 1 => R.gd true vb (R.bs .eql v1 v2 fun vd => Jc vd va) (Jc undef va)) fun ve vf => R.jn (fun Jg : Cur (Hp → Bool) 1 => R.gd false ve (R.bs .add (.string ⟨⟨[46]⟩⟩) v2 fun vh => C 107 2 v1 vh vf fun vi vj => Jg vi vj) (Jg undef vf)) fun vk vl => R.jn (fun Jm : Cur (Hp → Bool) 1 => R.gd true vb (R.pk ve (.bool true) vk fun vn => Jm vn vl) (Jm undef vl)) fun vo vp => R.pk vb vo (.bool false) fun vq => kr vq vp
theorem C87_eq (R : Ops) (C : Callees) : C87 R C = fnOf Tryd.prog R C 2 Tryd.f87 (bodyOf Tryd.prog 87) := by kernel_rfl

noncomputable def C88 (R : Ops) (C : Callees) : FnT 1 := fun v1 v2 kr => R.jn (fun J3 : Cur (Hp → Bool) 0 => C 41 1 v1 v2 fun v4 v5 => R.nt v4 fun v6 => R.br v6 (kr (.slice none 0 0) v5) (J3 v5)) fun v7 => C 108 2 v1 (.string ⟨⟨[46]⟩⟩) v7 fun v8 v9 => kr v8 v9
theorem C88_eq (R : Ops) (C : Callees) : C88 R C = fnOf Tryd.prog R C 1 Tryd.f88 (bodyOf Tryd.prog 88) := by kernel_rfl

noncomputable def C126 (R : Ops) (C : Callees) : FnT 2 := fun v1 v2 v3 kr => R.ls v1 fun v4 => R.ls v2 fun v5 => R.bi .geq v4 v5 fun v6 => R.jn (fun J7 : Cur (Hp → Bool) 1 => R.gd true v6 (R.ls v1 fun v8 => R.ls v2 fun v9 => R.bi .sub v8 v9 fun va => R.ss v1 (some va) none fun vb => R.bs .eql vb v2 fun vc => J7 vc v3) (J7 undef v3)) fun vd ve => R.pk v6 vd (.bool false) fun vf => kr vf ve
theorem C126_eq (R : Ops) (C : Callees) : C126 R C = fnOf Tryd.prog R C 2 Tryd.f126 (bodyOf Tryd.prog 126) := by kernel_rfl

noncomputable def C107 (R : Ops) (C : Callees) : FnT 2 := fun v1 v2 v3 kr => C 126 2 v1 v2 v3 fun v4 v5 => kr v4 v5
theorem C107_eq (R : Ops) (C : Callees) : C107 R C = fnOf Tryd.prog R C 2 Tryd.f107 (bodyOf Tryd.prog 107) := by kernel_rfl

theorem C9_ent {G : GivenT} (hG : G 9 = none) : EntOk Tryd.prog G 9 ⟨2, C9 (theOps Tryd.prog)⟩ := ent_of_fn C9_eq Tryd.func9 (by kernel_rfl) hG
theorem C32_ent {G : GivenT} (hG : G 32 = none) : EntOk Tryd.prog G 32 ⟨2, C32 (theOps Tryd.prog)⟩ := ent_of_fn C32_eq Tryd.func32 (by kernel_rfl) hG
theorem C60_ent {G : GivenT} (hG : G 60 = none) : EntOk Tryd.prog G 60 ⟨4, C60 (theOps Tryd.prog)⟩ := ent_of_fn C60_eq Tryd.func60 (by kernel_rfl) hG
theorem C43_ent {G : GivenT} (hG : G 43 = none) : EntOk Tryd.prog G 43 ⟨1, C43 (theOps Tryd.prog)⟩ := ent_of_fn C43_eq Tryd.func43 (by kernel_rfl) hG
theorem C70_ent {G : GivenT} (hG : G 70 = none) : EntOk Tryd.prog G 70 ⟨1, C70 (theOps Tryd.prog)⟩ := ent_of_fn C70_eq Tryd.func70 (by kernel_rfl) hG
theorem C87_ent {G : GivenT} (hG : G 87 = none) : EntOk Tryd.prog G 87 ⟨2, C87 (theOps Tryd.prog)⟩ := ent_of_fn C87_eq Tryd.func87 (by kernel_rfl) hG
theorem C88_ent {G : GivenT} (hG : G 88 = none) : EntOk Tryd.prog G 88 ⟨1, C88 (theOps Tryd.prog)⟩ := ent_of_fn C88_eq Tryd.func88 (by kernel_rfl) hG
theorem C126_ent {G : GivenT} (hG : G 126 = none) : EntOk Tryd.prog G 126 ⟨2, C126 (theOps Tryd.prog)⟩ := ent_of_fn C126_eq Tryd.func126 (by kernel_rfl) hG
theorem C107_ent {G : GivenT} (hG : G 107 = none) : EntOk Tryd.prog G 107 ⟨2, C107 (theOps Tryd.prog)⟩ := ent_of_fn C107_eq Tryd.func107 (by kernel_rfl) hG
def fsC : List Nat := [9, 32, 60, 43, 70, 87, 88, 126, 107]
noncomputable def tabC : Tr Ent := (Tr.set (Tr.set (Tr.set (Tr.set (Tr.set (Tr.set (Tr.set (Tr.set (Tr.set .nil 9 (some ⟨2, C9 (theOps Tryd.prog)⟩)) 32 (some ⟨2, C32 (theOps Tryd.prog)⟩)) 60 (some ⟨4, C60 (theOps Tryd.prog)⟩)) 43 (some ⟨1, C43 (theOps Tryd.prog)⟩)) 70 (some ⟨1, C70 (theOps Tryd.prog)⟩)) 87 (some ⟨2, C87 (theOps Tryd.prog)⟩)) 88 (some ⟨1, C88 (theOps Tryd.prog)⟩)) 126 (some ⟨2, C126 (theOps Tryd.prog)⟩)) 107 (some ⟨2, C107 (theOps Tryd.prog)⟩))
theorem tabC_ok {G : GivenT} (h : ∀ g, g ∈ fsC → G g = none) : TabOk Tryd.prog G tabC := (TabOk.add (TabOk.add (TabOk.add (TabOk.add (TabOk.add (TabOk.add (TabOk.add (TabOk.add (TabOk.add .nil (C9_ent (h 9 (by decide)))) (C32_ent (h 32 (by decide)))) (C60_ent (h 60 (by decide)))) (C43_ent (h 43 (by decide)))) (C70_ent (h 70 (by decide)))) (C87_ent (h 87 (by decide)))) (C88_ent (h 88 (by decide)))) (C126_ent (h 126 (by decide)))) (C107_ent (h 107 (by decide))))
end Go.Proofs.YtfmppmabnpkooaaDoor
end
section
/- Chapter 7, by the quick engine: its awake; CookieBad. -/
set_option autoImplicit false
set_option linter.unusedSimpArgs false
set_option linter.unusedVariables false
namespace Go.Proofs.YtfmppmabnpkooaaDoor
open Go Go.RowKit Go.Proofs.YtfmppmabnpkooaaDoor.Abs

def samesL : List (List UInt8) := [[], [78, 111, 110, 101], [76, 97, 120], [83, 116, 114, 105, 99, 116]]
noncomputable def samesC : List Value := [.string ⟨⟨[]⟩⟩, .string ⟨⟨[78, 111, 110, 101]⟩⟩, .string ⟨⟨[76, 97, 120]⟩⟩, .string ⟨⟨[83, 116, 114, 105, 99, 116]⟩⟩]
/-- What is known of the world. -/
def CkWorld (w : World) : Prop := VarCells w 0 samesC ∧ ∃ m, w.cell? ⟨3, 0, none⟩ = some (.int .i64 m)
theorem cellW_lt {w : World} {b off : Nat} {v : Value} (h : w.cell? ⟨b, off, none⟩ = some v) : b < w.heap.size := by
  apply Classical.byContradiction
  intro hn
  have : w.heap[b]? = none := Array.getElem?_eq_none (by omega)
  simp [World.cell?, this] at h
theorem CkWorld.below {w w' : World} (h : CkWorld w) (hb : Below w.heap.size w w') : CkWorld w' := by
  obtain ⟨h1, m, h2⟩ := h
  refine ⟨h1.below hb, m, ?_⟩
  rw [← h2]
  exact hb.cell (cellW_lt h2)
noncomputable def sTrue : List Value → NTree Value
  | [] => .ret (.bool true)
  | _ => .none
noncomputable def GK0 : GivenT := gAdd 20 (natRow 29 sPairs) (gAdd 41 (natFlat sHost2) (gAdd 26 (natFlat sLower) (gAdd 108 (natRow 9 sSplit) (gAdd 63 nJoin gNone))))
theorem GK0_ok {w : World} {ι0 : Nat → Option Abs.Loc} (h : CkWorld w) : GivenOk Tryd.prog w.heap.size ⟨w, ι0⟩ GK0 := by
  obtain ⟨_, m, hm⟩ := h
  exact ((((GivenOk.none.add nJoin_ok).add (sSplit_ok hm)).add sLower_ok).add sHost2_ok).add sPairs_ok
noncomputable def addN (n f : Nat) (g : Native) (T : Tr Ent) : Tr Ent := T.set f (some ⟨n, natF n g⟩)
theorem addN_ok {P : Program} {G : GivenT} {T : Tr Ent} {n f : Nat} {g : Native} (hT : TabOk P G T) (hG : G f = some g) : TabOk P G (addN n f g T) := hT.add (natF_ok hG)
noncomputable def tabK0 : Tr Ent := addN 1 20 (natRow 29 sPairs) (addN 1 41 (natFlat sHost2) (addN 1 26 (natFlat sLower) (addN 2 108 (natRow 9 sSplit) (addN 2 63 nJoin tabF))))
noncomputable def hK (e : Nat) : Hp := ⟨Tr.nil.set 0 (some (.cells samesC e false)), 13⟩
noncomputable def kTrue (v : Value) (h : Hp) : Bool :=
  match v with
  | .bool b => b
  | _ => false
theorem kTrue_ok {v : Value} {h : Hp} (hk : kTrue v h = true) : v = .bool true := by
  unfold kTrue at hk
  split at hk
  · rw [hk]
  · cases hk
theorem tabK0_ok : TabOk Tryd.prog GK0 tabK0 :=
  addN_ok (addN_ok (addN_ok (addN_ok (addN_ok (tabF_ok (by decide +kernel)) rfl) rfl) rfl) rfl) rfl
set_option maxRecDepth 1000000 in
theorem awake7_run (e : Nat) : app noF 0 (knot tabK0 60 31 0) [] (hK e) kTrue = true := by kernel_rfl
theorem noNG_prog : noNG Tryd.prog = true := by kernel_rfl
/-- The start: what is known of the world, and numbers by their names. -/
theorem CkWorld.inv {w : World} (h : CkWorld w) (z1 z2 : Int) : ∃ e ι, Inv Tryd.prog w.heap.size ⟨w, ι⟩ ι (hK e).t.get w ∧ (∀ id, 13 ≤ id → ι id = none) ∧ ι 11 = some (tokLoc z1) ∧ ι 12 = some (tokLoc z2) := by
  obtain ⟨h1, m, h2⟩ := h
  obtain ⟨e, i, hI⟩ := Inv.know_var (Inv.start w) (P := Tryd.prog) (of_decide_eq_true (by kernel_rfl)) rfl h1 (by rfl) (fun id j o' h => by cases h)
  have hw : 0 < w.heap.size := Nat.lt_of_le_of_lt (Nat.zero_le _) (cellW_lt h2)
  have hI1 := hI.name (m := 11) rfl rfl (of_decide_eq_true (by kernel_rfl)) hw z1
  have hI2 := hI1.name (m := 12) rfl rfl (of_decide_eq_true (by kernel_rfl)) hw z2
  refine ⟨e, fupd (fupd (fupd (fun _ => none) 0 (some i)) 11 (some (tokLoc z1))) 12 (some (tokLoc z2)), ?_, fun id hid => ?_, rfl, rfl⟩
  · have hf := hI2.fix
    have he : (hK e).t.get = fupd (fun _ => none) 0 (some (.cells samesC e false)) := by
      unfold hK
      rw [Tr.get_set_fun]
      rfl
    rw [he]
    exact hf
  · rw [fupd_ne _ _ _ _ (by omega), fupd_ne _ _ _ _ (by omega), fupd_ne _ _ _ _ (by omega)]
theorem awake7_calls {w : World} (h : CkWorld w) : Calls Tryd.prog 31 #[] w fun e w' => e = .returned (.bool true) ∧ Below w.heap.size w w' := by
  obtain ⟨e, ι, hI, hf, _⟩ := h.inv 0 0
  obtain ⟨v, h', j, hc, hk⟩ := call_of_knot tabK0_ok (awake7_run e)
  obtain rfl := kTrue_ok hk
  exact law_of_call (args' := []) noNG_prog (drawOk_none _ _ _) (GK0_ok h) hc hI trivial (of_decide_eq_true (by kernel_rfl)) hf

/-! ### CookieBad -/
theorem sTrue7_ok {w : World} {ι0 : Nat → Option Abs.Loc} (h : CkWorld w) : NatOk Tryd.prog w.heap.size ⟨w, ι0⟩ 31 (natFlat sTrue) := by
  refine natFlat_ok fun args v hv => ?_
  unfold sTrue at hv
  split at hv
  · cases hv
    exact ⟨rfl, rfl, fun w' hb => awake7_calls (h.below hb)⟩
  · cases hv
noncomputable def T9 (i j : Nat) : List (Nat × Nat × Nat) := [(11, 16, i), (12, 4, j)]
noncomputable def G9 (i j : Nat) : GivenT := gAdd 31 (natFlat sTrue) (gAdd 30 (natLow (T9 i j)) GK0)
noncomputable def tab9 (i j : Nat) : Tr Ent := addN 0 31 (natFlat sTrue) (addN 2 30 (natLow (T9 i j)) (addN 1 20 (natRow 29 sPairs) (addN 1 41 (natFlat sHost2) (addN 1 26 (natFlat sLower) (addN 2 108 (natRow 9 sSplit) (addN 2 63 nJoin tabC))))))
theorem tab9_ok (i j : Nat) : TabOk Tryd.prog (G9 i j) (tab9 i j) :=
  addN_ok (addN_ok (addN_ok (addN_ok (addN_ok (addN_ok (addN_ok (tabC_ok (by intro g hg; simp only [fsC, List.mem_cons, List.not_mem_nil, or_false] at hg; rcases hg with rfl | rfl | rfl | rfl | rfl | rfl | rfl | rfl | rfl <;> rfl)) rfl) rfl) rfl) rfl) rfl) rfl) rfl
noncomputable def allB (f : Nat → Bool) (n : Nat) : Bool := Nat.rec (motive := fun _ => Bool) true (fun k ih => Bool.rec (motive := fun _ => Bool) false ih (f k)) n
theorem allB_ok {f : Nat → Bool} : ∀ {n : Nat}, allB f n = true → ∀ i, i < n → f i = true
  | 0, _, i, hi => by omega
  | n + 1, h, i, hi => by
    have h' : Bool.rec (motive := fun _ => Bool) false (allB f n) (f n) = true := h
    cases hf : f n with
    | false => rw [hf] at h'; cases h'
    | true =>
      rw [hf] at h'
      by_cases e : i = n
      · rw [e]; exact hf
      · exact allB_ok (show allB f n = true from h') i (by omega)
set_option maxRecDepth 1000000 in
theorem cookieBad_run (e : Nat) : allB (fun i => allB (fun j => app noF 2 (knot (tab9 i j) 60 9 2) [.complex .f32 11 0, .complex .f32 12 0] (hK e) kTrue) 4) 16 = true := by kernel_rfl
theorem moatlaw7_CookieBad.walk (z1 z2 : Int) (w : World) (h : CkWorld w) : Calls Tryd.prog 9 #[.int .i64 z1, .int .i64 z2] w fun e w' => e = .returned (.bool true) ∧ Below w.heap.size w w' := by
  obtain ⟨e, ι, hI, hf, h11, h12⟩ := h.inv z1 z2
  have hi : lowN z1 16 < 16 := by have := lowN_lt z1 16 (by decide); omega
  have hj : lowN z2 4 < 4 := by have := lowN_lt z2 4 (by decide); omega
  have hr := allB_ok (allB_ok (cookieBad_run e) _ hi) _ hj
  obtain ⟨v, h', j, hc, hk⟩ := call_of_knot (tab9_ok _ _) hr
  obtain rfl := kTrue_ok hk
  refine law_of_call (args' := [.int .i64 z1, .int .i64 z2]) noNG_prog (drawOk_none _ _ _) (((GK0_ok h).add (natLow_ok ?_)).add (sTrue7_ok h)) hc hI ?_ (of_decide_eq_true (by kernel_rfl)) hf
  · intro id n k hm
    simp only [T9, List.mem_cons, Prod.mk.injEq, List.not_mem_nil, or_false] at hm
    rcases hm with ⟨rfl, rfl, rfl⟩ | ⟨rfl, rfl, rfl⟩
    · exact ⟨z1, h11, by decide, by decide, rfl⟩
    · exact ⟨z2, h12, by decide, by decide, rfl⟩
  · have t1 := VRel.tok (ι := ι) 11 _ h11
    have t2 := VRel.tok (ι := ι) 12 _ h12
    rw [tokLoc_z] at t1 t2
    exact ⟨t1, t2, trivial⟩
end Go.Proofs.YtfmppmabnpkooaaDoor
end
section
/- A start that meets the rows' condition where a listed variable is a map and another is pinned: what the door's own run leaves, and the pinned table laid behind it. -/
namespace Go.Proofs.YtfmppmabnpkooaaDoor
open Go
noncomputable def pinnedOf (l : List (String × DataW Unit)) : List (String × DataW Unit) := l.filter fun x => ["unicode/utf8.first"].contains x.1
noncomputable def startW (os : Os) (l : List (String × DataW Unit)) : World := (World.doorLaid Tryd.prog 3000 os).layVars Tryd.prog (pinnedOf l)
noncomputable def startB (os : Os) : List Nat := (List.range (World.doorLaid Tryd.prog 3000 os).heap.size).filter fun b => !(b == 6)
theorem startW_os (os : Os) (l : List (String × DataW Unit)) : (startW os l).os = os := World.layVars_os _ _ _
theorem start_met (os : Os) (l : List (String × DataW Unit)) (hl : (l.all fun x => x.2.handleName?.isNone) = true)
    (hf : (World.doorLaid Tryd.prog 3000 os).layFits Tryd.prog (pinnedOf l) (startB os) = true) (hi : (World.doorLaid Tryd.prog 3000 os).layIfaces Tryd.prog (pinnedOf l) (startW os l) = true)
    (h1 : (DataW.laidRun Tryd.prog (startW os l) 8 ((l.filter fun x => !["unicode/utf8.first"].contains x.1).map (·.1))).map (·.1) = some (l.filter fun x => !["unicode/utf8.first"].contains x.1))
    (h2 : (DataW.laidRun Tryd.prog (startW os l) 8 ((l.filter fun x => !["unicode/utf8.first"].contains x.1).map (·.1))).map (fun x => nodupB (x.2.map MemPlace.codeOf)) = some true)
    (h3 : (DataW.laidRun Tryd.prog (startW os l) 8 ((l.filter fun x => !["unicode/utf8.first"].contains x.1).map (·.1))).map (fun x => laidRowsB Tryd.prog (startW os l) x.2) = some true)
    (h4 : (DataW.laidRun Tryd.prog (startW os l) 8 ((l.filter fun x => !["unicode/utf8.first"].contains x.1).map (·.1))).map (fun x => x.2.all fun p => (startB os).contains p.block) = some true)
    (args : Array Value) : laidMetH Tryd.prog l ((startW os l).forCall (fun _ _ => 0) ⟨#[], args, []⟩).memory := by
  rw [MakeChecks.laidMetH_plain _ _ _ hl]
  have h : laidMet Tryd.prog l (startW os l) := laidMet_layVars (w0 := World.doorLaid Tryd.prog 3000 os) ["unicode/utf8.first"] (startB os) rfl hf hi (LaidIn.of_run (startB os) 8 h1 h2 h3 h4)
  exact h.of_heap (by simp [World.memory, World.forCall, Input.heap])
set_option maxRecDepth 100000 in
theorem urlPaths_met (os : Os) (args : Array Value) : laidMetH Tryd.prog Rows.urlPathsRow.laid ((startW os Rows.urlPathsRow.laid).forCall (fun _ _ => 0) ⟨#[], args, []⟩).memory :=
  start_met os _ (by kernel_rfl) (by kernel_rfl) (by kernel_rfl) (by kernel_rfl) (by kernel_rfl) (by kernel_rfl) (by kernel_rfl) args
end Go.Proofs.YtfmppmabnpkooaaDoor
end
section
/- What a row of chapter 7 gives the walk: the world that CkRun speaks of; a start that meets the rows' condition. -/
namespace Go.Proofs.YtfmppmabnpkooaaDoor
open Go Go.Proofs.YtfmppmabnpkooaaDoor.Abs
set_option maxRecDepth 100000 in
theorem ckWorld_of {W : World} {l : List (String × DataW Unit)} (hl : (l.all fun x => x.2.handleName?.isNone) = true) (hm : ("moat/cookie.sames", Rows.laid_moat_cookie_sames) ∈ l) (h : laidMetH Tryd.prog l W) (hs : W.ShapedOpen Tryd.prog) : CkWorld W := by
  rw [MakeChecks.laidMetH_plain _ _ _ hl] at h
  refine ⟨cells_of_reads h hm (g := 0) (t := 77) (by kernel_rfl) (by kernel_rfl) (fun enc sp held fuel b us p hd => ?_), ?_⟩
  · exact strs_of_tab (ss := samesL) Tryd.underlying77 (e := 9) Tryd.underlying9 (by kernel_rfl) (by kernel_rfl) hd
  · exact Go.Proofs.cell_of_shapedOpen_int (zero := #[.int .i64 0]) (t := 3) hs (of_decide_eq_true (by kernel_rfl)) (by kernel_rfl) rfl (by kernel_rfl) (by kernel_rfl) Tryd.underlying3
theorem cookieBad_world {W : World} (h : laidMetH Tryd.prog Rows.cookieBadRow.laid W) (hs : W.ShapedOpen Tryd.prog) : CkWorld W :=
  ckWorld_of (by kernel_rfl) (List.mem_of_getElem? (i := 1) rfl) h hs
set_option maxRecDepth 100000 in
theorem cookieBad_met (os : Os) (args : Array Value) : laidMetH Tryd.prog Rows.cookieBadRow.laid ((startW os Rows.cookieBadRow.laid).forCall (fun _ _ => 0) ⟨#[], args, []⟩).memory :=
  start_met os _ (by kernel_rfl) (by kernel_rfl) (by kernel_rfl) (by kernel_rfl) (by kernel_rfl) (by kernel_rfl) (by kernel_rfl) args
end Go.Proofs.YtfmppmabnpkooaaDoor
end
section
/- Arguments of any kind opened: what a datum reads as, in the print's kinds: numbers, bools, texts, structs, arrays, slices, one within another. -/
set_option linter.unusedSimpArgs false
set_option linter.unusedVariables false
namespace Go.Proofs.YtfmppmabnpkooaaDoor
open Go Go.RowKit Go.ChangeShapes Go.WideShapes Go.Deep Go.Proofs.YtfmppmabnpkooaaDoorW.PrintWords

def Opens {α : Type} (P : Program) (t : TypeId) (d : Kd α) (B : α → Prop) : Prop :=
  ∀ (H : Type) (enc : TypeId × Value → H) (w : World) (sp : Nat → Bool) (held : Bool) (fuel : Nat) (cs : List Value) (x : DataW H × List MemPlace),
    DataW.trod enc P w 0 sp held fuel t cs = some x → (∀ n ∈ x.1.weights P t, n ≤ reachBytes) → ∃ a, d.K w a cs ∧ B a

theorem Opens.mono {α : Type} {P : Program} {t : TypeId} {d : Kd α} {B B' : α → Prop} (h : Opens P t d B) (hb : ∀ a, B a → B' a) : Opens P t d B' := fun H enc w sp held fuel cs x hx hw => by
  obtain ⟨a, h1, h2⟩ := h H enc w sp held fuel cs x hx hw
  exact ⟨a, h1, hb a h2⟩
theorem Opens.int {P : Program} {t : TypeId} {k : IntKind} (h : P.underlying t = some (.int k)) : Opens P t (Kd.int k) (fun n => (Lit.int k n).wf = true) := fun H enc w sp held fuel cs x hx _ => by
  obtain ⟨n, rfl, _, hw⟩ := DataW.trod_int h hx
  exact ⟨n, rfl, hw⟩
theorem Opens.bool {P : Program} {t : TypeId} (h : P.underlying t = some .bool) : Opens P t Kd.bool (fun _ => True) := fun H enc w sp held fuel cs x hx _ => by
  obtain ⟨b, rfl, _⟩ := DataW.trod_bool h hx
  exact ⟨b, rfl, trivial⟩
theorem Opens.string {P : Program} {t : TypeId} (h : P.underlying t = some .string) : Opens P t Kd.string (fun s => s.size ≤ 140737488351232) := fun H enc w sp held fuel cs x hx hw => by
  obtain ⟨s, rfl, rfl, _⟩ := DataW.trod_string h hx
  refine ⟨s, rfl, ?_⟩
  have := hw s.data.toList.length (by simp [DataW.weights])
  rw [Array.length_toList] at this
  exact this
theorem Opens.iso {α β : Type} {P : Program} {t : TypeId} {d : Kd α} {B : α → Prop} {f : β → α} (g : α → β) (hg : ∀ a, f (g a) = a) (h : Opens P t d B) : Opens P t (Kd.iso d f) (fun b => B (f b)) := fun H enc w sp held fuel cs x hx hw => by
  obtain ⟨a, h1, h2⟩ := h H enc w sp held fuel cs x hx hw
  exact ⟨g a, (show d.K w (f (g a)) cs by rw [hg]; exact h1), (show B (f (g a)) by rw [hg]; exact h2)⟩

/-- A struct's fields, from one of them on. -/
def OpensF {α : Type} (P : Program) (fs : List Field) (off : Nat) (d : Kd α) (B : α → Prop) : Prop :=
  ∀ (H : Type) (enc : TypeId × Value → H) (w : World) (sp : Nat → Bool) (held : Bool) (fuel : Nat) (cs : List Value) (ys : List (DataW H × List MemPlace)),
    (∀ (j : Nat) (f : Field), fs[j]? = some f → DataW.trod enc P w 0 sp held fuel f.type ((cs.drop f.offset).take (P.cellsOf f.type)) = ys[j]?) → ys.length = fs.length → off + (fs.map fun f => P.cellsOf f.type).sum = cs.length →
    (∀ n ∈ DataW.weightsEach P (fs.map (·.type)) (ys.map (·.1)), n ≤ reachBytes) → ∃ a, d.K w a (cs.drop off) ∧ B a

theorem OpensF.one {α : Type} {P : Program} {f : Field} {off : Nat} {d : Kd α} {B : α → Prop} (ho : f.offset = off) (h : Opens P f.type d B) : OpensF P [f] off d B := fun H enc w sp held fuel cs ys hf hl hs hw => by
  match ys, hl with
  | [y], _ =>
    have h0 := hf 0 f rfl
    rw [ho, List.take_of_length_le (by rw [List.length_drop]; simp at hs; omega)] at h0
    exact h H enc w sp held fuel _ y h0 (fun n hn => hw n (by simp [DataW.weightsEach, hn]))
theorem OpensF.cons {α β : Type} {P : Program} {f : Field} {fs : List Field} {off off' : Nat} {d : Kd α} {e : Kd β} {B : α → Prop} {C : β → Prop} (ho : f.offset = off) (ho' : off + P.cellsOf f.type = off') (h : Opens P f.type d B) (hr : OpensF P fs off' e C) :
    OpensF P (f :: fs) off (Kd.pair d e) (fun ab => B ab.1 ∧ C ab.2) := fun H enc w sp held fuel cs ys hf hl hs hw => by
  match ys, hl with
  | y :: ys, hl =>
    have h0 := hf 0 f rfl
    rw [ho] at h0
    obtain ⟨a, ha, hb⟩ := h H enc w sp held fuel _ y h0 (fun n hn => hw n (by simp [DataW.weightsEach, hn]))
    obtain ⟨b, hb1, hb2⟩ := hr H enc w sp held fuel cs ys (fun (j : Nat) (g : Field) hg => by have := hf (j + 1) g (by simpa using hg); simpa using this) (by simpa using hl) (by simp at hs; omega) (fun n hn => hw n (by simp [DataW.weightsEach, hn]))
    refine ⟨(a, b), ⟨(cs.drop off).take (P.cellsOf f.type), cs.drop off', ?_, ha, hb1⟩, hb, hb2⟩
    rw [← ho', ← List.drop_drop, List.take_append_drop]
theorem Opens.struct {α : Type} {P : Program} {t : TypeId} {fs : Array Field} {d : Kd α} {B : α → Prop} (h : P.underlying t = some (.struct fs)) (hc : (fs.toList.map fun f => P.cellsOf f.type).sum = P.cellsOf t) (hf : OpensF P fs.toList 0 d B) : Opens P t d B := fun H enc w sp held fuel cs x hx hw => by
  obtain ⟨xs, n, _, rfl, hl, hlen, hg⟩ := DataW.trod_struct h hx
  have := hf H enc w sp held n cs xs (fun (j : Nat) (f : Field) hj => hg j f (by simpa using hj)) (by simpa using hlen) (by rw [Nat.zero_add, hc, hl]) (fun m hm => hw m (by
    simp only [DataW.weights, h]
    exact hm))
  simpa using this

theorem weightsAll_mem {H : Type} {P : Program} {e : TypeId} : ∀ {l : List (DataW H)} {d : DataW H}, d ∈ l → ∀ n ∈ d.weights P e, n ∈ DataW.weightsAll P e l
  | x :: l, d, h, n, hn => by
    rcases List.mem_cons.1 h with rfl | h
    · simp [DataW.weightsAll, hn]
    · simp [DataW.weightsAll, weightsAll_mem h n hn]

/-- A choice for each place. -/
theorem choose_list {α : Type} {R : Nat → α → Prop} : ∀ (n : Nat), (∀ i, i < n → ∃ a, R i a) → ∃ l : List α, l.length = n ∧ ∀ i a, l[i]? = some a → R i a
  | 0, _ => ⟨[], rfl, by simp⟩
  | n + 1, h => by
    obtain ⟨l, hl, hr⟩ := choose_list n (fun i hi => h i (by omega))
    obtain ⟨a, ha⟩ := h n (by omega)
    refine ⟨l ++ [a], by simp [hl], fun i b hb => ?_⟩
    rcases Nat.lt_trichotomy i n with hi | hi | hi
    · rw [List.getElem?_append_left (by omega)] at hb; exact hr i b hb
    · subst hi
      rw [List.getElem?_append_right (by omega), hl] at hb
      simp at hb
      rw [← hb]; exact ha
    · rw [List.getElem?_eq_none (by simp; omega)] at hb; cases hb

theorem Opens.slice {α : Type} {P : Program} {t e : TypeId} {d : Kd α} {B : α → Prop} (ht : P.underlying t = some (.slice e)) (hc : P.cellsOf e = d.sz) (h : Opens P e d B) :
    Opens P t (Kd.slice e d) (fun xs => (∀ x ∈ xs, B x) ∧ xs.length * P.bytesOf e ≤ reachBytes ∧ xs.length ≤ maxLen) := fun H enc w sp held fuel cs x hx hw => by
  rcases open_slice ht hx with ⟨rfl, rfl⟩ | ⟨a, len, cap, m, n, D, Pl, rfl, hb, hl, hm, hmm, rfl, hi⟩
  · refine ⟨[], ⟨none, 0, rfl, Nat.le_refl _, ⟨rfl, by simp, fun h => by simp at h⟩⟩, by simp, by simp, by simp⟩
  · have hlm : len ≤ m := by rw [hmm]; split <;> omega
    have hws : ∀ n ∈ ((((List.range len).map D).length * P.bytesOf e) :: DataW.weightsAll P e ((List.range len).map D)), n ≤ reachBytes := fun k hk => by
      simp only [DataW.weights, ht] at hw
      rcases List.mem_cons.1 hk with rfl | hk
      · have := hw _ (by exact List.mem_cons_self)
        refine Nat.le_trans ?_ this
        exact Nat.mul_le_mul_right _ (by omega)
      · exact hw k (List.mem_cons_of_mem _ (List.mem_append_left _ hk))
    have hel : ∀ i, i < len → ∃ y, (∃ cs', cs'.length = d.sz ∧ d.K w y cs' ∧ ∀ j u, cs'[j]? = some u → w.cell? (a.add (i * d.sz + j)) = some u) ∧ B y := fun i hil => by
      obtain ⟨cs', hcs, htr⟩ := hi i (by omega)
      obtain ⟨_, hcl, hat⟩ := World.cells?_some hcs
      obtain ⟨y, hy, hby⟩ := h H enc w sp held n cs' _ htr (fun k hk => hws k (List.mem_cons_of_mem _ (weightsAll_mem (List.mem_map.2 ⟨i, List.mem_range.2 hil, rfl⟩) k hk)))
      rw [hc] at hcl hat
      refine ⟨y, ⟨cs', hcl, hy, fun j u hj => ?_⟩, hby⟩
      have hjl : j < d.sz := by rw [← hcl]; exact (List.getElem?_eq_some_iff.1 hj).1
      have := hat j hjl
      rw [hj, Go.Deep.add_add] at this
      exact this
    obtain ⟨l, hll, hlr⟩ := choose_list len hel
    have hmx : len ≤ 9223372036854775807 := by unfold maxLen at hm; omega
    refine ⟨l, ⟨some a, cap, by rw [hll], by rw [hll]; exact hl, ⟨rfl, by rw [hll]; exact hmx, fun _ => ⟨a, rfl, fun j p hp => (hlr j p hp).1⟩⟩⟩, fun y hy => ?_, ?_, ?_⟩
    · obtain ⟨i, hi⟩ := List.getElem?_of_mem hy
      exact (hlr i y hi).2
    · have := hws _ List.mem_cons_self
      simpa [hll] using this
    · rw [hll]; omega
theorem Opens.array {α : Type} {P : Program} {t e : TypeId} {n : Nat} {d : Kd α} {B : α → Prop} (hs : 0 < d.sz) (ht : P.underlying t = some (.array n e)) (hc : P.cellsOf e = d.sz) (hct : P.cellsOf t = n * d.sz) (h : Opens P e d B) :
    Opens P t (Kd.arr n d hs) (fun xs => ∀ x ∈ xs, B x) := fun H enc w sp held fuel cs x hx hw => by
  obtain ⟨xs, m, _, rfl, hl, hlen, hg⟩ := DataW.trod_array ht hx
  have hel : ∀ i, i < n → ∃ y, d.K w y ((cs.drop (i * d.sz)).take d.sz) ∧ B y := fun i hi => by
    have h1 := hg i hi
    rw [hc, List.getElem?_eq_getElem (by omega)] at h1
    exact h H enc w sp held m _ _ h1 (fun k hk => hw k (by
      simp only [DataW.weights, ht]
      exact weightsAll_mem (List.mem_map.2 ⟨_, List.getElem_mem _, rfl⟩) k hk))
  obtain ⟨l, hll, hlr⟩ := choose_list n hel
  refine ⟨l, ⟨hll, by rw [hl, hct, hll], fun j p hp => (hlr j p hp).1⟩, fun y hy => ?_⟩
  obtain ⟨i, hi⟩ := List.getElem?_of_mem hy
  exact (hlr i y hi).2

/-- A parameter: what its cells are. -/
theorem open_param {α : Type} {P : Program} {t : TypeId} {d : Kd α} {B : α → Prop} (ho : Opens P t d B) {H : Type} {enc : TypeId × Value → H} {w : World} {sp : Nat → Bool} {held : Bool} {v : Value} {x : DataW H} {p : List MemPlace}
    (h : DataW.Trod enc P w 0 sp held t v x p) {ts : List TypeId} {ds : List (DataW H)} (hsz : (DataW.weightsEach P ts ds).all (· ≤ reachBytes) = true) {j : Nat} (ht : ts[j]? = some t) (hd : ds[j]? = some x) : ∃ a, d.K w a v.cells.toList ∧ B a := by
  obtain ⟨fuel, hf⟩ := h
  refine ho H enc w sp held fuel _ _ hf (fun n hn => ?_)
  have := List.all_eq_true.1 hsz n (DataW.weights_mem_each ht hd n hn)
  simpa using this
theorem agg_of {P : Program} {w : World} {r : Reach} {b : Nat} {t : TypeId} {fs : Array Field} {v : Value} {l : List Value} (ht : P.underlying t = some (.struct fs)) (h : Value.okWide P w r b t v) (hl : v.cells.toList = l) : v = .agg l.toArray := by
  obtain ⟨cs, rfl, _⟩ := okWide_struct ht h
  subst hl
  simp [Value.cells]
theorem one_of_cells {v u : Value} (h : v.cells.toList = [u]) (hv : ∀ cs, v ≠ .agg cs) : v = u := by
  cases v <;> simp_all [Value.cells]
end Go.Proofs.YtfmppmabnpkooaaDoor
end
section
/- CookieBad: the tied card of CookieBad: for every input the law answers true, and its arguments read as before; the listed variables hold what the program's text lays. Proved from the walk and the pure statement. -/
namespace Go.Proofs.YtfmppmabnpkooaaDoor.cookieBad
open Go.ChangeShapes Go.WideShapes Go.ChangeAt Go.RowKit Go.Proofs.YtfmppmabnpkooaaDoor Go.Proofs.YtfmppmabnpkooaaDoorW.PrintWords
open Go.ChangeMaps (open_string shut_string)
set_option linter.unusedVariables false
theorem own : ownKnob Tryd.prog.godebug = none := by kernel_rfl
theorem laidOut : laidOutB Tryd.prog = true := by kernel_rfl
set_option maxRecDepth 100000 in
set_option maxHeartbeats 2000000 in
theorem lifted (os : Os) (started : os.Started) (H : Type) (enc : TypeId × Value → H) :
    ReturnsInHanded {} Tryd.checked os 9 .any (fun w args => (Rows.cookieBadSpec.pre enc Tryd.prog Tryd.f9 [] false w args ∧ laidMetH Tryd.prog Rows.cookieBadRow.laid w) ∧ sizedMet enc Tryd.prog Tryd.f9 (OpenSpec.ofChange Rows.cookieBadSpec) false w args)
      (Rows.cookieBadSpec.post enc Tryd.prog Tryd.f9 false true false false) := by
  refine Abs.returnsInHanded_of_change_both (C := Tryd.checked) (X := fun w _ => laidMetH Tryd.prog Rows.cookieBadRow.laid w) (fun _ _ _ hh h => h.of_heap hh) own started (by kernel_rfl) Tryd.func9
    (ChangeSpec.witness_shaped (enc := enc) (C := Tryd.checked) (os := os) (X := fun w _ => laidMetH Tryd.prog Rows.cookieBadRow.laid w) false (startW os Rows.cookieBadRow.laid) #[.int .i64 0, .int .i64 0] 8 (startW_os _ _)
      (World.shaped_of_ZipB (by kernel_rfl) (by kernel_rfl)) (by kernel_rfl) (by kernel_rfl) (by kernel_rfl)
      (cookieBad_met os _)) ?_
  intro W base args ds gs before hval0 hW _ hsz0 hLd hSh _
  have hsz : (DataW.weightsEach Tryd.prog (Tryd.f9.params.toList ++ Rows.cookieBadSpec.plain.varTypes Tryd.prog) (ds ++ gs)).all (· ≤ reachBytes) = true := hsz0
  have hval : ∀ (j : Nat) t v, Tryd.f9.params[j]? = some t → args[j]? = some v → Value.okWide Tryd.prog W .any base t v := hval0
  have hW' := hW
  obtain ⟨p, q, hA0, hV, rfl, hfz, hnd⟩ := hW
  have hA : DataW.TrodAll enc Tryd.prog W 0 (fun _ => true) true Tryd.f9.params.toList args.toList ds p := hA0
  rw [Tryd.params9] at hA hval hsz
  obtain ⟨v0, vs0, d0, ds0, p0, q0, hargs, rfl, rfl, h0, r0⟩ := trodAll_cons hA
  obtain ⟨v1, vs1, d1, ds1, p1, q1, rfl, rfl, rfl, h1, r1⟩ := trodAll_cons r0
  obtain ⟨rfl, rfl, rfl⟩ := trodAll_nil r1
  obtain rfl : args = #[v0, v1] := by cases args; simp_all
  obtain ⟨rfl, rfl⟩ := trodVars_none hV
  obtain ⟨a0, rfl, rfl, rfl, w0⟩ := open_int Tryd.underlying3 (hval 0 3 v0 rfl rfl) h0
  obtain ⟨a1, rfl, rfl, rfl, w1⟩ := open_int Tryd.underlying3 (hval 1 3 v1 rfl rfl) h1
  clear hA0 hval0 hsz0
  refine (moatlaw7_CookieBad.walk a0 a1 W (cookieBad_world hLd hSh)).mono fun e W' ⟨he, bel⟩ => ?_
  subst he
  exact ⟨_, rfl, _, _, _, [], _, [], hW', trodAll_mk1 (shut_bool Tryd.underlying4 _), (trodAll_cons_mk (shut_int Tryd.underlying3 w0) (trodAll_cons_mk (shut_int Tryd.underlying3 w1) trodAll_mk0)), rfl, bel.frame _, fun h => by cases h⟩
theorem over : Rows.cookieBadRow.holds Tryd.pinned (OpenSpec.ofChange Rows.cookieBadSpec) :=
  OpenClaim.holds_of_wide 9 Tryd.f9 rfl rfl rfl rfl rfl rfl rfl ⟨rfl, rfl, rfl, rfl, rfl⟩ rfl rfl rfl rfl rfl (by kernel_rfl) Tryd.func9 (by kernel_rfl)
    (of_decide_eq_true (by kernel_rfl)) (by unfold Func.isWrapper; first | (rw [if_pos (by decide +kernel)]; kernel_rfl) | (rw [if_neg (by decide +kernel)]; exact ⟨rfl, rfl⟩))
    (fun os started H enc _ => lifted os started H enc)
theorem proved : Rows.CookieBadSaid := over
end Go.Proofs.YtfmppmabnpkooaaDoor.cookieBad
namespace Go.Proofs.YtfmppmabnpkooaaDoor
open Go
theorem cookieBad_holds : Rows.CookieBadSaid := cookieBad.proved
theorem cookieBad_card : Rows.CookieBadCardSaid :=
  Claim7.holds_tied_plain_at .later [] [.data, .data, .pinned] true (true, "bbff303a77905f31ba50631edf97baa54c765626db4729932a0b7e8a5b75d3fc") true
    cookieBad_holds (fun _ h => by cases h) (by kernel_rfl) (fun _ h => by cases h) cookieBad_row_tie rfl ⟨rfl, rfl⟩ (by kernel_rfl) rfl
    (fun f fn hf hfn => by
      obtain rfl : f = 9 := Option.some.inj ((show Tryd.prog.funcNamed "moat/moatlaw7.CookieBad" = some 9 by kernel_rfl).symm.trans hf) |>.symm
      obtain rfl : fn = Tryd.f9 := (Option.some.inj (Tryd.func9.symm.trans hfn)).symm
      exact ⟨by kernel_rfl, fun j t ht => by
        rw [Tryd.params9] at ht
        have hm : t ∈ [3] := by
          have hin := Array.mem_def.1 (Array.mem_of_getElem? ht)
          exact (show ∀ u ∈ ([3, 3] : List TypeId), u ∈ ([3] : List TypeId) by decide) t hin
        have hall : ([3].all fun u => !Tryd.prog.wantsStandIn u) = true := by kernel_rfl
        exact (show Tryd.prog.wantsStandIn t = false by simpa using List.all_eq_true.1 hall t hm)⟩)
    (by kernel_rfl)
end Go.Proofs.YtfmppmabnpkooaaDoor
end
#print axioms Go.Proofs.YtfmppmabnpkooaaDoor.cookieBad_card
