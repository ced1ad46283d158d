/- url.Path in plain words. -/
import Derived.Test.YtfmppmabnpkooaaDoorBUx3
import Derived.Test.YtfmppmabnpkooaaDoorLabelU
set_option linter.unusedSimpArgs false
set_option linter.unusedVariables false
namespace Go.Proofs.YtfmppmabnpkooaaDoor
open Go Go.RowKit Go.Proofs.YtfmppmabnpkooaaDoorW.PrintWords Go.Proofs.YtfmppmabnpkooaaDoorW.PrintLast Go.Proofs.YtfmppmabnpkooaaDoorW.PrintMore

def pathC (c : UInt8) : Bool := plainB c || decide (c = 47) || decide (c = 45) || decide (c = 95) || decide (c = 46)
def pathL (l : List UInt8) : Bool := l.all pathC && decide (l.head? = some 47) && decide (l.length ≤ 60)
theorem bt_u (s : ByteArray) (i : Nat) (h : i < s.data.toList.length) : bt s (i : Int) = (s.data.toList[i].toNat : Int) := by
  have hs : s.data.toList.length = s.size := (Lib.size_eq s).symm
  rw [← bt_at s i (by simp; omega)]
  rfl
theorem byte_is (c : UInt8) (n : Nat) (hn : n < 256) : ((c.toNat : Int) = (n : Int)) ↔ c = UInt8.ofNat n := by
  constructor
  · intro h
    apply UInt8.toNat_inj.1
    rw [UInt8.toNat_ofNat_of_lt' hn]
    omega
  · rintro rfl
    rw [UInt8.toNat_ofNat_of_lt' hn]
theorem path_loop (s : ByteArray) (hn : s.size ≤ 140737488355328) : ∀ (d k i : Nat), i + d = s.size → d < k → BU.url_Path.l0 k s (s.size : Int) (i : Int) = some ((s.data.toList.drop i).all pathC && decide (s.data.toList.head? = some 47) && decide (s.size ≤ 60))
  | 0, k, i, h1, hk => by
    have hs : s.data.toList.length = s.size := (Lib.size_eq s).symm
    obtain ⟨k, rfl⟩ : ∃ m, k = m + 1 := ⟨k - 1, by omega⟩
    rw [BU.url_Path.l0.eq_2, if_neg (by omega), List.drop_of_length_le (by omega), List.all_nil, Bool.true_and, Go.ByteArray.toList_eq]
    cases hl : s.data.toList with
    | nil => rw [if_pos rfl]; rfl
    | cons c r =>
      have hp : 0 < s.data.toList.length := by rw [hl]; simp
      have hb : bt s 0 = (c.toNat : Int) := by
        have := bt_u s 0 hp
        simp only [hl, List.getElem_cons_zero] at this
        exact this
      rw [if_neg (by simp), if_pos (by omega), hb]
      have he : ((c.toNat : Int) = 47) ↔ c = 47 := byte_is c 47 (by omega)
      by_cases h : c = 47
      · rw [if_pos (he.2 h), List.head?_cons, h]
        simp
        omega
      · rw [if_neg (fun e => h (he.1 e)), List.head?_cons]
        simp [h]
  | d + 1, k, i, h1, hk => by
    have hs : s.data.toList.length = s.size := (Lib.size_eq s).symm
    obtain ⟨k, rfl⟩ : ∃ m, k = m + 1 := ⟨k - 1, by omega⟩
    have hlt : i < s.data.toList.length := by omega
    have hw : wrap64 ((i : Int) + 1) = ((i + 1 : Nat) : Int) := by unfold wrap64; omega
    have ih := path_loop s hn d k (i + 1) (by omega) (by omega)
    rw [BU.url_Path.l0.eq_2, if_pos (by omega), if_pos (by omega), if_pos (by omega), bt_u s i hlt, plain_f, hw, ih, List.drop_eq_getElem_cons hlt, List.all_cons]
    generalize s.data.toList[i] = c
    have e47 : ((c.toNat : Int) = 47) ↔ c = 47 := byte_is c 47 (by omega)
    have e45 : ((c.toNat : Int) = 45) ↔ c = 45 := byte_is c 45 (by omega)
    have e95 : ((c.toNat : Int) = 95) ↔ c = 95 := byte_is c 95 (by omega)
    have e46 : ((c.toNat : Int) = 46) ↔ c = 46 := byte_is c 46 (by omega)
    rw [Option.bind_some]
    unfold pathC
    by_cases p : plainB c = true
    · rw [if_pos p, p]; simp
    · rw [if_neg p, (by simpa using p : plainB c = false)]
      by_cases h47 : c = 47
      · rw [if_pos (e47.2 h47), decide_eq_true h47]; simp
      · rw [if_neg (fun e => h47 (e47.1 e)), decide_eq_false h47]
        by_cases h45 : c = 45
        · rw [if_pos (e45.2 h45), decide_eq_true h45]; simp
        · rw [if_neg (fun e => h45 (e45.1 e)), decide_eq_false h45]
          by_cases h95 : c = 95
          · rw [if_pos (e95.2 h95), decide_eq_true h95]; simp
          · rw [if_neg (fun e => h95 (e95.1 e)), decide_eq_false h95]
            by_cases h46 : c = 46
            · rw [if_pos (e46.2 h46), decide_eq_true h46]; simp
            · rw [if_neg (fun e => h46 (e46.1 e)), decide_eq_false h46]; simp
theorem Path_f (s : ByteArray) (hn : s.size ≤ 140737488355328) (k : Nat) (hk : s.size < k) : BU.url_Path.f k s = some (pathL s.data.toList) := by
  unfold BU.url_Path.f
  have h := path_loop s hn s.size k 0 (by omega) hk
  rw [List.drop_zero] at h
  rw [show ((0 : Nat) : Int) = 0 from rfl] at h
  rw [h]
  unfold pathL
  rw [← Lib.size_eq s]
end Go.Proofs.YtfmppmabnpkooaaDoor
