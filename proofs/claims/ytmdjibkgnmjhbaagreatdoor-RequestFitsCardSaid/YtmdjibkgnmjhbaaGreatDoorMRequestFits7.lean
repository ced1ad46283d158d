/- RequestFits: part 7 of its proof: RqFl, RqDef. -/
import Derived.Test.YtmdjibkgnmjhbaaGreatDoorMRequestFits3
import Derived.Test.YtmdjibkgnmjhbaaGreatDoorProg
import Derived.KernelRfl
import Derived.Test.YtmdjibkgnmjhbaaGreatDoorMRequestFits5
import Derived.Test.YtmdjibkgnmjhbaaGreatDoorMRequestFits6
import Derived.Test.YtmdjibkgnmjhbaaGreatDoorMRequestFits0
import Derived.Test.YtmdjibkgnmjhbaaGreatDoorMRequestFits1
import Derived.Test.YtmdjibkgnmjhbaaGreatDoorMRequestFits2
import Derived.Test.YtmdjibkgnmjhbaaGreatDoorMRequestFits4
section
/- Functions of the program as terms of the quick engine; each is what its code comes to. -/
set_option autoImplicit false
set_option linter.unusedVariables false
set_option maxRecDepth 100000
namespace Go.Proofs.YtmdjibkgnmjhbaaGreatDoor
open Go Go.RowKit Go.Proofs.YtmdjibkgnmjhbaaGreatDoor.Abs
noncomputable def M4 (R : Ops) (C : Callees) : FnT 6 := fun v1 v2 v3 v4 v5 v6 v7 kr => R.bl 22 4 [(0, (.string ⟨⟨[104,116,116,112,115,58,47,47,97,46,116,101,115,116]⟩⟩)), (1, (.string ⟨⟨[104,116,116,112,115,58,47,47,98,46,97,46,116,101,115,116]⟩⟩)), (2, (.string ⟨⟨[104,116,116,112,58,47,47,97,46,116,101,115,116,58,56,49]⟩⟩)), (3, (.string ⟨⟨[104,116,116,112,115,58,47,47,99,46,116,101,115,116]⟩⟩))] v7 fun v8 v9 => R.bl 22 4 [(0, (.string ⟨⟨[47]⟩⟩)), (1, (.string ⟨⟨[47,120]⟩⟩)), (2, (.string ⟨⟨[47,120,47,121]⟩⟩)), (3, (.string ⟨⟨[47,120,121]⟩⟩))] v9 fun va vb => C 7 2 v1 (.int .i64 (.ofNat 4)) vb fun vc vd => C 7 2 v2 (.int .i64 (.ofNat 4)) vd fun ve vf => C 7 2 v3 (.int .i64 (.ofNat 4)) vf fun vg vh => R.bl 22 4 [(0, (.string ⟨⟨[]⟩⟩)), (1, (.string ⟨⟨[68,111,109,97,105,110,61,97,46,116,101,115,116]⟩⟩)), (2, (.string ⟨⟨[80,97,116,104,61,47,120]⟩⟩)), (3, (.string ⟨⟨[68,111,109,97,105,110,61,97,46,116,101,115,116,59,32,80,97,116,104,61,47,120]⟩⟩))] vh fun vi vj => R.xs 1 vi vg fun vk => R.l1 vj vk fun vl => R.jn (fun Jm : Cur (Hp → Bool) 1 => R.br v4 (R.bs .add vl (.string ⟨⟨[59,32,83,101,99,117,114,101]⟩⟩) fun vn => Jm vn vj) (Jm vl vj)) fun vo vp => R.xs 1 v8 (.int .i64 (.ofNat 0)) fun vq => R.l1 vp vq fun vr => R.bs .add (.string ⟨⟨[111,114,105,103,105,110,32,111,48,32,34]⟩⟩) vr fun vs => R.bs .add vs (.string ⟨⟨[34,59,32,111,114,105,103,105,110,32,111,49,32,34]⟩⟩) fun vt => R.xs 1 v8 (.int .i64 (.ofNat 1)) fun vu => R.l1 vp vu fun vv => R.bs .add vt vv fun vw => R.bs .add vw (.string ⟨⟨[34,59,32,111,114,105,103,105,110,32,111,50,32,34]⟩⟩) fun vx => R.xs 1 v8 (.int .i64 (.ofNat 2)) fun vy => R.l1 vp vy fun vz => R.bs .add vx vz fun v10 => R.bs .add v10 (.string ⟨⟨[34,59,32,111,114,105,103,105,110,32,111,51,32,34]⟩⟩) fun v11 => R.xs 1 v8 (.int .i64 (.ofNat 3)) fun v12 => R.l1 vp v12 fun v13 => R.bs .add v11 v13 fun v14 => R.bs .add v14 (.string ⟨⟨[34,59,32,99,111,111,107,105,101,32,99,32,97,116,32,111,48,32,34]⟩⟩) fun v15 => R.bs .add v15 vo fun v16 => R.bs .add v16 (.string ⟨⟨[34,59,32,101,110,100,112,111,105,110,116,32,101,32,97,116,32,111]⟩⟩) fun v17 => R.bi .add (.int .i64 (.ofNat 48)) vc fun v18 => R.xs 1 va ve fun v19 => R.l1 vp v19 fun v1a => R.al 36 [(.slice none 0 0), (.slice none 0 0), (.slice none 0 0), (.slice none 0 0), (.slice none 0 0), (.bool false)] vp fun v1b v1c => R.bo (R.l1 v1c v19 fun v1d => R.eq v1d v1a) (R.bo (R.l1 v1c v12 fun v1e => R.eq v1e v13) (R.bo (R.l1 v1c vy fun v1f => R.eq v1f vz) (R.bo (R.l1 v1c vu fun v1g => R.eq v1g vv) (R.bo (R.l1 v1c vq fun v1h => R.eq v1h vr) (R.ci .u8 v18 fun v1i => R.bl 39 1 [(0, v1i)] v1c fun v1j v1k => R.bo (R.l1 v1k v19 fun v1l => R.eq v1l v1a) (R.bo (R.l1 v1k v12 fun v1m => R.eq v1m v13) (R.bo (R.l1 v1k vy fun v1n => R.eq v1n vz) (R.bo (R.l1 v1k vu fun v1o => R.eq v1o vv) (R.bo (R.l1 v1k vq fun v1p => R.eq v1p vr) (R.cg 39 9 v1k v1j fun v1q v1r => R.bs .add v17 v1q fun v1s => R.bs .add v1s (.string ⟨⟨[32,80,79,83,84,32,34]⟩⟩) fun v1t => R.bs .add v1t v1a fun v1u => R.bs .add v1u (.string ⟨⟨[34,32,123,32,125]⟩⟩) fun v1v => R.bo (R.l1 v1r v19 fun v1w => R.eq v1w v1a) (R.bo (R.l1 v1r v12 fun v1x => R.eq v1x v13) (R.bo (R.l1 v1r vy fun v1y => R.eq v1y vz) (R.bo (R.l1 v1r vu fun v1z => R.eq v1z vv) (R.bo (R.l1 v1r vq fun v20 => R.eq v20 vr) (C 10 1 v1v v1r fun v21 v22 => R.ex 0 v21 fun v23 => R.ex 1 v21 fun v24 => R.sn 6 v22 v1b v23 fun v25 v26 => R.jn (fun J27 : Cur (Hp → Bool) 0 => R.nt v24 fun v28 => R.br v28 (kr (.bool false) v26) (J27 v26)) fun v29 => R.ln 6 v29 v1b fun v2a => C 11 1 v2a v29 fun v2b v2c => R.al 43 [(.int .i64 (.ofNat 0)), (.bool false), (.slice none 0 0), (.slice none 0 0), (.slice none 0 0), (.slice none 0 0), (.slice none 0 0), (.slice none 0 0)] v2c fun v2d v2e => R.sn 8 v2e v2d v2b fun v2f v2g => R.fa 2 v2d fun v2h => R.l1 v2g v2h fun v2i => R.bo (R.l1 v2g v2h fun v2j => R.eq v2j v2i) (C 7 2 v6 (.int .i64 (.ofNat 4)) v2g fun v2k v2l => R.bi .add (.int .i64 (.ofNat 1)) v2k fun v2m => R.xs 1 v2i (.int .i64 (.ofNat 0)) fun v2n => R.bo (R.l1 v2l v2h fun v2o => R.eq v2o v2i) (R.s1 v2l v2n v2m fun v2p v2q => R.bi .eql vc (.int .i64 (.ofNat 0)) fun v2r => R.jn (fun J2s : Cur (Hp → Bool) 1 => R.gd false v2r (R.bi .eql vc (.int .i64 (.ofNat 1)) fun v2t => J2s v2t v2q) (J2s undef v2q)) fun v2u v2v => R.pk v2r (.bool true) v2u fun v2w => R.bi .eql vc (.int .i64 (.ofNat 0)) fun v2x => R.jn (fun J2y : Cur (Hp → Bool) 1 => R.gd false v2x (R.bi .eql vc (.int .i64 (.ofNat 1)) fun v2z => J2y v2z v2v) (J2y undef v2v)) fun v30 v31 => R.pk v2x (.bool true) v30 fun v32 => R.bi .eql vc (.int .i64 (.ofNat 2)) fun v33 => R.bi .eql vc (.int .i64 (.ofNat 3)) fun v34 => R.bl 40 5 [(0, v2w), (1, v32), (2, v33), (3, v34), (4, (.bool true))] v31 fun v35 v36 => C 7 2 v5 (.int .i64 (.ofNat 5)) v36 fun v37 v38 => R.bi .eql vc (.int .i64 (.ofNat 0)) fun v39 => R.jn (fun J3a : Cur (Hp → Bool) 1 => R.gd false v39 (R.bi .eql vc (.int .i64 (.ofNat 2)) fun v3b => J3a v3b v38) (J3a undef v38)) fun v3c v3d => R.pk v39 (.bool true) v3c fun v3e => R.jn (fun J3f : Cur (Hp → Bool) 1 => R.gd false v3e (R.bi .eql vc (.int .i64 (.ofNat 1)) fun v3g => J3f v3g v3d) (J3f undef v3d)) fun v3h v3i => R.jn (fun J3j : Cur (Hp → Bool) 1 => R.gd true v3h (R.bi .eql vg (.int .i64 (.ofNat 1)) fun v3k => J3j v3k v3i) (J3j undef v3i)) fun v3l v3m => R.jn (fun J3n : Cur (Hp → Bool) 1 => R.gd false v3l (R.bi .eql vg (.int .i64 (.ofNat 3)) fun v3o => J3n v3o v3m) (J3n undef v3m)) fun v3p v3q => R.jn (fun J3r : Cur (Hp → Bool) 1 => R.gd true v3h (R.pk v3l (.bool true) v3p fun v3s => J3r v3s v3q) (J3r undef v3q)) fun v3t v3u => R.jn (fun J3v : Cur (Hp → Bool) 1 => R.gd false v3e (R.pk v3h v3t (.bool false) fun v3w => J3v v3w v3u) (J3v undef v3u)) fun v3x v3y => R.pk v3e (.bool true) v3x fun v3z => R.jn (fun J40 : Cur (Hp → Bool) 1 => R.gd true v3z (R.bi .lss vg (.int .i64 (.ofNat 2)) fun v41 => J40 v41 v3y) (J40 undef v3y)) fun v42 v43 => R.jn (fun J44 : Cur (Hp → Bool) 1 => R.gd false v42 (R.bi .eql ve (.int .i64 (.ofNat 1)) fun v45 => J44 v45 v43) (J44 undef v43)) fun v46 v47 => R.jn (fun J48 : Cur (Hp → Bool) 1 => R.gd true v3z (R.pk v42 (.bool true) v46 fun v49 => J48 v49 v47) (J48 undef v47)) fun v4a v4b => R.jn (fun J4c : Cur (Hp → Bool) 1 => R.gd false v4a (R.bi .eql ve (.int .i64 (.ofNat 2)) fun v4d => J4c v4d v4b) (J4c undef v4b)) fun v4e v4f => R.jn (fun J4g : Cur (Hp → Bool) 1 => R.gd true v3z (R.pk v4a (.bool true) v4e fun v4h => J4g v4h v4f) (J4g undef v4f)) fun v4i v4j => R.pk v3z v4i (.bool false) fun v4k => R.jn (fun J4l : Cur (Hp → Bool) 1 => R.gd true v4k (R.nt v4 fun v4m => J4l v4m v4j) (J4l undef v4j)) fun v4n v4o => R.jn (fun J4p : Cur (Hp → Bool) 1 => R.gd false v4n (R.bi .neq vc (.int .i64 (.ofNat 2)) fun v4q => J4p v4q v4o) (J4p undef v4o)) fun v4r v4s => R.jn (fun J4t : Cur (Hp → Bool) 1 => R.gd true v4k (R.pk v4n (.bool true) v4r fun v4u => J4t v4u v4s) (J4t undef v4s)) fun v4v v4w => R.pk v4k v4v (.bool false) fun v4x => R.jn (fun J4y : Cur (Hp → Bool) 1 => R.jn (fun J4z : Cur (Hp → Bool) 1 => R.gd true v4x (R.xs 1 v35 v37 fun v50 => R.l1 v4w v50 fun v51 => J4z v51 v4w) (J4z undef v4w)) fun v52 v53 => R.pk v4x v52 (.bool false) fun v54 => R.br v54 (R.fa 2 v2d fun v55 => R.l1 v53 v55 fun v56 => R.xs 1 v56 (.int .i64 (.ofNat 0)) fun v57 => R.l1 v53 v57 fun v58 => J4y v58 v53) (J4y (.int .i64 (.ofNat 0)) v53)) fun v59 v5a => R.bl 23 5 [(0, (.int .i64 (.ofNat 0))), (1, (.int .i64 (.ofNat 1))), (2, (.int .i64 (.ofNat 2))), (3, (.int .i64 (.ofNat 3))), (4, (.int .i64 (.negSucc 1)))] v5a fun v5b v5c => R.xs 1 v5b v37 fun v5d => R.l1 v5c v5d fun v5e => R.bd 46 [(1, v5e), (2, (.int .i64 (.ofNat 2)))] fun v5f => R.al 46 [(.int .i64 (.ofNat 0)), (.int .i64 (.ofNat 0)), (.int .i64 (.ofNat 0)), (.bool false), (.bool false), (.bool false), (.int .i64 (.ofNat 0)), (.slice none 0 0)] v5c fun v5g v5h => R.sn 8 v5h v5g v5f fun v5i v5j => R.ln 6 v5j v1b fun v5k => R.ln 8 v5j v2d fun v5l => R.ln 8 v5j v5g fun v5m => C 12 3 v5k v5l v5m v5j fun v5n v5o => R.f1 7 v5n fun v5p => R.lv v5p fun v5q => R.bi .eql v5q (.int .i64 (.ofNat 1)) fun v5r => R.jn (fun J5s : Cur (Hp → Bool) 1 => R.gd true v5r (R.xs 1 v5p (.int .i64 (.ofNat 0)) fun v5t => R.l1 v5o v5t fun v5u => R.bi .eql v5u v59 fun v5v => J5s v5v v5o) (J5s undef v5o)) fun v5w v5x => R.pk v5r v5w (.bool false) fun v5y => R.jn (fun J5z : Cur (Hp → Bool) 1 => R.gd true v5y (C 13 0 v5x fun v60 v61 => J5z v60 v61) (J5z undef v5x)) fun v62 v63 => R.pk v5y v62 (.bool false) fun v64 => kr v64 v63)))))))))))))))))
theorem M4_eq (R : Ops) (C : Callees) : M4 R C = fnOf Tryz.prog R C 6 Tryz.f4 (bodyOf Tryz.prog 4) := by kernel_rfl

noncomputable def M13 (R : Ops) (C : Callees) : FnT 0 := fun v1 kr => C 14 1 (.string ⟨⟨[111,114,105,103,105,110,32,97,32,34,104,116,116,112,115,58,47,47,97,46,116,101,115,116,34,59,32,99,111,111,107,105,101,32,99,32,97,116,32,97,32,34,83,101,99,117,114,101,59,32,83,97,109,101,83,105,116,101,61,83,116,114,105,99,116,34,59,32,101,110,100,112,111,105,110,116,32,101,32,97,116,32,97,32,71,69,84,32,34,47,34,32,123,32,125]⟩⟩) v1 fun v2 v3 => R.ex 0 v2 fun v4 => R.ex 1 v2 fun v5 => R.al 36 [(.slice none 0 0), (.slice none 0 0), (.slice none 0 0), (.slice none 0 0), (.slice none 0 0), (.bool false)] v3 fun v6 v7 => R.al 27 [(.int .i64 (.ofNat 0)), (.int .i64 (.ofNat 0))] v7 fun v8 v9 => R.sn 6 v9 v6 v4 fun va vb => R.sn 2 vb v8 v5 fun vc vd => R.jn (fun Je : Cur (Hp → Bool) 0 => R.fa 0 v8 fun vf => R.l1 vd vf fun vg => R.bi .neq vg (.int .i64 (.ofNat 0)) fun vh => R.jn (fun Ji : Cur (Hp → Bool) 1 => R.gd false vh (R.fa 3 v6 fun vj => R.l1 vd vj fun vk => R.lv vk fun vl => R.bi .neq vl (.int .i64 (.ofNat 1)) fun vm => Ji vm vd) (Ji undef vd)) fun vn vo => R.pk vh (.bool true) vn fun vp => R.jn (fun Jq : Cur (Hp → Bool) 1 => R.gd false vp (R.fa 1 v6 fun vr => R.l1 vo vr fun vs => R.lv vs fun vt => R.bi .neq vt (.int .i64 (.ofNat 1)) fun vu => Jq vu vo) (Jq undef vo)) fun vv vw => R.pk vp (.bool true) vv fun vx => R.br vx (kr (.bool false) vw) (Je vw)) fun vy => R.bl 23 1 [(0, (.int .i64 (.ofNat 1)))] vy fun vz v10 => R.bl 23 1 [(0, (.int .i64 (.ofNat 0)))] v10 fun v11 v12 => R.bl 40 1 [(0, (.bool false))] v12 fun v13 v14 => R.bl 40 1 [(0, (.bool false))] v14 fun v15 v16 => R.bd 43 [(0, (.int .i64 (.negSucc 1))), (2, vz), (3, v11), (5, v13), (6, v15)] fun v17 => R.al 43 [(.int .i64 (.ofNat 0)), (.bool false), (.slice none 0 0), (.slice none 0 0), (.slice none 0 0), (.slice none 0 0), (.slice none 0 0), (.slice none 0 0)] v16 fun v18 v19 => R.sn 8 v19 v18 v17 fun v1a v1b => R.ln 6 v1b v6 fun v1c => R.ln 8 v1b v18 fun v1d => R.bd 46 [(1, (.int .i64 (.negSucc 1))), (2, (.int .i64 (.ofNat 1)))] fun v1e => C 12 3 v1c v1d v1e v1b fun v1f v1g => R.al 46 [(.int .i64 (.ofNat 0)), (.int .i64 (.ofNat 0)), (.int .i64 (.ofNat 0)), (.bool false), (.bool false), (.bool false), (.int .i64 (.ofNat 0)), (.slice none 0 0)] v1g fun v1h v1i => R.sn 8 v1i v1h v1f fun v1j v1k => R.ln 6 v1k v6 fun v1l => R.ln 8 v1k v18 fun v1m => R.bd 46 [(1, (.int .i64 (.negSucc 0))), (2, (.int .i64 (.ofNat 1)))] fun v1n => C 12 3 v1l v1m v1n v1k fun v1o v1p => R.al 46 [(.int .i64 (.ofNat 0)), (.int .i64 (.ofNat 0)), (.int .i64 (.ofNat 0)), (.bool false), (.bool false), (.bool false), (.int .i64 (.ofNat 0)), (.slice none 0 0)] v1p fun v1q v1r => R.sn 8 v1r v1q v1o fun v1s v1t => R.ln 6 v1t v6 fun v1u => C 27 2 v1u (.int .i64 (.ofNat 0)) v1t fun v1v v1w => R.ex 0 v1v fun v1x => R.ex 1 v1v fun v1y => R.al 66 [(.string ⟨⟨[]⟩⟩), (.string ⟨⟨[]⟩⟩), (.string ⟨⟨[]⟩⟩), (.int .i64 (.ofNat 0))] v1w fun v1z v20 => R.sn 4 v20 v1z v1x fun v21 v22 => R.fa 7 v1h fun v23 => R.l1 v22 v23 fun v24 => R.bl 23 1 [(0, (.int .i64 (.ofNat 1)))] v22 fun v25 v26 => C 28 2 v24 v25 v26 fun v27 v28 => R.jn (fun J29 : Cur (Hp → Bool) 1 => R.gd true v27 (R.fa 7 v1q fun v2a => R.l1 v28 v2a fun v2b => R.bl 23 1 [(0, (.int .i64 (.ofNat 0)))] v28 fun v2c v2d => C 28 2 v2b v2c v2d fun v2e v2f => J29 v2e v2f) (J29 undef v28)) fun v2g v2h => R.pk v27 v2g (.bool false) fun v2i => R.jn (fun J2j : Cur (Hp → Bool) 1 => R.gd true v2i (J2j v1y v2h) (J2j undef v2h)) fun v2k v2l => R.pk v2i v2k (.bool false) fun v2m => R.jn (fun J2n : Cur (Hp → Bool) 1 => R.gd true v2m (R.fa 2 v1z fun v2o => R.l1 v2l v2o fun v2p => R.bs .eql v2p (.string ⟨⟨[97,46,116,101,115,116]⟩⟩) fun v2q => J2n v2q v2l) (J2n undef v2l)) fun v2r v2s => R.pk v2m v2r (.bool false) fun v2t => R.jn (fun J2u : Cur (Hp → Bool) 1 => R.gd true v2t (R.ln 6 v2s v6 fun v2v => R.ln 8 v2s v18 fun v2w => C 29 2 v2v v2w v2s fun v2x v2y => R.bi .eql v2x (.int .i64 (.negSucc 1)) fun v2z => J2u v2z v2y) (J2u undef v2s)) fun v30 v31 => R.pk v2t v30 (.bool false) fun v32 => R.jn (fun J33 : Cur (Hp → Bool) 1 => R.gd true v32 (C 30 0 v31 fun v34 v35 => R.f1 2 v34 fun v36 => R.bs .eql v36 (.string ⟨⟨[101,118,105,108,46,116,101,115,116]⟩⟩) fun v37 => J33 v37 v35) (J33 undef v31)) fun v38 v39 => R.pk v32 v38 (.bool false) fun v3a => kr v3a v39
theorem M13_eq (R : Ops) (C : Callees) : M13 R C = fnOf Tryz.prog R C 0 Tryz.f13 (bodyOf Tryz.prog 13) := by kernel_rfl

theorem M4_ent {G : GivenT} (hG : G 4 = none) : EntOk Tryz.prog G 4 ⟨6, M4 (theOps Tryz.prog)⟩ := ent_of_fn M4_eq Tryz.func4 (by kernel_rfl) hG
theorem M13_ent {G : GivenT} (hG : G 13 = none) : EntOk Tryz.prog G 13 ⟨0, M13 (theOps Tryz.prog)⟩ := ent_of_fn M13_eq Tryz.func13 (by kernel_rfl) hG
end Go.Proofs.YtmdjibkgnmjhbaaGreatDoor
end
section
/- RequestFits: awake, and what is run. -/
set_option autoImplicit false
set_option linter.unusedSimpArgs false
set_option linter.unusedVariables false
namespace Go.Proofs.YtmdjibkgnmjhbaaGreatDoor
open Go Go.RowKit Go.Proofs.YtmdjibkgnmjhbaaGreatDoor.Abs

/-- Whether nothing of a list is given. -/
noncomputable def freeOf (G : GivenT) (l : List Nat) : Bool := l.all fun g => match G g with | none => true | some _ => false
theorem freeOf_ok {G : GivenT} {l : List Nat} (h : freeOf G l = true) (g : Nat) (hg : g ∈ l) : G g = none := by
  have := List.all_eq_true.1 h g hg
  split at this
  · assumption
  · cases this
/-- What wf.known and items call: all of this table. -/
noncomputable def C0R : Callees := knot (natT tabR) 60
theorem C0R_ok : COk Tryz.prog G0 C0R := knot_ok (natT_ok0 (tabR_ok (freeOf_ok (by kernel_rfl)))) 60
noncomputable def tabR1 : Tr Ent := Tr.set (Tr.set tabR 53 (some ⟨1, kF C0R⟩)) 92 (some ⟨1, iF C0R⟩)
noncomputable def tabRA : Tr Ent := natT (Tr.set tabR1 13 (some ⟨0, M13 (theOps Tryz.prog)⟩))
theorem natTR_ok {G : GivenT} {T : Tr Ent} (hT : TabOk Tryz.prog G T) (h0 : G 160 = some (natRow 233 sPairs)) (h1 : G 127 = some (natFlat sHost2)) (h2 : G 129 = some (natFlat sLower)) (h3 : G 261 = some (natRow 9 sSplit))
    (h4 : G 140 = some nJoin) (h5 : G 276 = some (natFlat sIndex)) (h6 : G 221 = some (natFlat sIndexByte)) (h7 : G 125 = some (natFlat sCut)) : TabOk Tryz.prog G (natT T) :=
  addN_ok (addN_ok (addN_ok (addN_ok (addN_ok (addN_ok (addN_ok (addN_ok hT h7) h6) h5) h4) h3) h2) h1) h0
theorem tabRA_ok : TabOk Tryz.prog G1 tabRA := natTR_ok ((((tabR_ok (freeOf_ok (by kernel_rfl))).add (kF_ok C0R_ok rfl)).add (iF_ok C0R_ok rfl)).add (M13_ent rfl)) rfl rfl rfl rfl rfl rfl rfl rfl
set_option maxRecDepth 1000000 in
theorem awake17_run (e1 e2 e3 e4 : Nat) : app noF 0 (knot tabRA 60 13 0) [] (hW e1 e2 e3 e4) kTrue = true := by kernel_rfl
theorem awake17_calls {w : World} (h : WfWorld w) : Calls Tryz.prog 13 #[] w fun e w' => e = .returned (.bool true) ∧ Below w.heap.size w w' := by
  obtain ⟨e1, e2, e3, e4, ι, hI, hf, _⟩ := h.inv 0 0 0 0 0
  obtain ⟨v, h', j, hc, hk⟩ := call_of_knot tabRA_ok (awake17_run e1 e2 e3 e4)
  obtain rfl := kTrue_ok hk
  exact law_of_call (args' := []) noNG_prog (adraw_ok noNG_prog (by kernel_rfl)) (G1_ok h.max) hc hI trivial (of_decide_eq_true (by kernel_rfl)) hf
theorem sTrue17_ok {w : World} {ι0 : Nat → Option Abs.Loc} (h : WfWorld w) : NatOk Tryz.prog w.heap.size ⟨w, ι0⟩ 13 (natFlat sTrue) := by
  refine natFlat_ok fun args v hv => ?_
  unfold sTrue at hv
  split at hv
  · cases hv
    exact ⟨rfl, rfl, fun w' hb => awake17_calls (h.below hb)⟩
  · cases hv
/-- to, path, own, by, value. -/
noncomputable def TRq (i j k b v : Nat) : List (Nat × Nat × Nat) := [(15, 4, i), (16, 4, j), (17, 4, k), (18, 5, b), (19, 4, v)]
noncomputable def GRq (i j k b v : Nat) : GivenT := gAdd 13 (natFlat sTrue) (gAdd 7 (natLow (TRq i j k b v)) G1)
/-- Where it goes, the path, and what is owned are given; of the others each answer is run. -/
noncomputable def ARq (i j k : Nat) : List (Nat × Nat × Nat) := [(15, 4, i), (16, 4, j), (17, 4, k)]
def BRq : List (Nat × Nat) := [(18, 5), (19, 4)]
noncomputable def tabRq (i j k : Nat) : Tr Ent := addN 0 13 (natFlat sTrue) (Tr.set (natT (Tr.set tabR1 4 (some ⟨6, M4 (theOps Tryz.prog)⟩))) 7 (some ⟨2, lowAll (ARq i j k) BRq⟩))
theorem rq_fits {i j k b v : Nat} (hb : b < 5) (hv : v < 4) : LowFits (ARq i j k) BRq (TRq i j k b v) := by
  constructor
  · intro id n x hx
    unfold ARq at hx
    unfold TRq
    simp only [sLow.go] at hx ⊢
    by_cases h1 : (Nat.beq 15 id && Nat.beq 4 n) = true
    · rw [h1] at hx ⊢
      exact hx
    · rw [Bool.not_eq_true] at h1
      rw [h1] at hx ⊢
      simp only [cond_false] at hx ⊢
      by_cases h2 : (Nat.beq 16 id && Nat.beq 4 n) = true
      · rw [h2] at hx ⊢
        exact hx
      · rw [Bool.not_eq_true] at h2
        rw [h2] at hx ⊢
        simp only [cond_false] at hx ⊢
        by_cases h3 : (Nat.beq 17 id && Nat.beq 4 n) = true
        · rw [h3] at hx ⊢
          exact hx
        · rw [Bool.not_eq_true] at h3
          rw [h3] at hx
          cases hx
  · intro id n hh
    unfold hasTok BRq at hh
    simp only [List.any_cons, List.any_nil, Bool.or_false, Bool.or_eq_true, Bool.and_eq_true, Nat.beq_eq] at hh
    rcases hh with ⟨rfl, rfl⟩ | ⟨rfl, rfl⟩
    · exact ⟨b, hb, rfl⟩
    · exact ⟨v, hv, rfl⟩
theorem tabRq_ok {i j k b v : Nat} (hb : b < 5) (hv : v < 4) : TabOk Tryz.prog (GRq i j k b v) (tabRq i j k) :=
  addN_ok ((natTR_ok ((((tabR_ok (freeOf_ok (by kernel_rfl))).add (kF_ok C0R_ok rfl)).add (iF_ok C0R_ok rfl)).add (M4_ent rfl)) rfl rfl rfl rfl rfl rfl rfl rfl).add (lowAll_ok rfl (rq_fits hb hv))) rfl
noncomputable def runRq (e1 e2 e3 e4 : Nat) (i j k : Nat) (s : Bool) : Bool := app noF 6 (knot (tabRq i j k) 60 4 6) [.complex .f32 15 0, .complex .f32 16 0, .complex .f32 17 0, .bool s, .complex .f32 18 0, .complex .f32 19 0] (hW e1 e2 e3 e4) kTrue
end Go.Proofs.YtmdjibkgnmjhbaaGreatDoor
end
