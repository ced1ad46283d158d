/- Formulas in plain words: a fold over a stack; twice not, both, one of both. -/
namespace Go.Proofs.Ytmelefiodhnlpaa
def takesL (k : Int) : Int := if k = 1 ∨ k = 2 ∨ k = 3 ∨ k = 4 ∨ k = 5 then 0 else if k = 6 then 1 else if k = 7 ∨ k = 8 then 2 else -1
theorem takesL_bd (k : Int) : -1 ≤ takesL k ∧ takesL k ≤ 2 := by
  unfold takesL; (repeat' split) <;> omega
variable {T U : Type}
def stepL (d : Int × Int → List T → T) (st : List T) (p : Int × Int) : Option (List T) :=
  if takesL p.1 < 0 ∨ (st.length : Int) < takesL p.1 then none else some (st.take (st.length - (takesL p.1).toNat) ++ [d p (st.drop (st.length - (takesL p.1).toNat))])
def runL (d : Int × Int → List T → T) : List (Int × Int) → List T → Option (List T)
  | [], st => some st
  | p :: f, st => (stepL d st p).bind (runL d f)
def foldL (z : T) (d : Int × Int → List T → T) (f : List (Int × Int)) : T × Bool := match runL d f [] with
  | some [x] => (x, true)
  | _ => (z, false)
def depthD (_ : Int × Int) (of : List Int) : Int := of.foldl max 0 + 1
def deepL (f : List (Int × Int)) : Int := (foldL 0 depthD f).1
def holdsD (ask : Int × Int → Bool) (p : Int × Int) (of : List Bool) : Bool :=
  if p.1 = 1 ∨ p.1 = 2 ∨ p.1 = 3 ∨ p.1 = 4 ∨ p.1 = 5 then ask p else if p.1 = 6 then !(of.getD 0 false) else if p.1 = 7 then of.getD 0 false && of.getD 1 false else of.getD 0 false || of.getD 1 false
def holdsL (ask : Int × Int → Bool) (f : List (Int × Int)) : Bool := (foldL false (holdsD ask) f).1

theorem runL_append (d : Int × Int → List T → T) (f g : List (Int × Int)) (st : List T) : runL d (f ++ g) st = (runL d f st).bind (runL d g) := by
  induction f generalizing st with
  | nil => rfl
  | cons p f ih =>
    simp only [List.cons_append, runL]
    cases stepL d st p with
    | none => rfl
    | some s => simp only [Option.bind_some]; exact ih s

theorem stepL_length (d : Int × Int → List T → T) (e : Int × Int → List U → U) (st : List T) (su : List U) (h : st.length = su.length) (p : Int × Int) :
    (stepL d st p).map List.length = (stepL e su p).map List.length := by
  unfold stepL
  rw [h]
  split
  · rfl
  · simp [h]
theorem runL_length (d : Int × Int → List T → T) (e : Int × Int → List U → U) (f : List (Int × Int)) (st : List T) (su : List U) (h : st.length = su.length) :
    (runL d f st).map List.length = (runL e f su).map List.length := by
  induction f generalizing st su with
  | nil => simp [runL, h]
  | cons p f ih =>
    have hs := stepL_length d e st su h p
    simp only [runL]
    cases h1 : stepL d st p with
    | none => rw [h1] at hs; cases h2 : stepL e su p with
      | none => rfl
      | some s => rw [h2] at hs; simp at hs
    | some s => rw [h1] at hs; cases h2 : stepL e su p with
      | none => rw [h2] at hs; simp at hs
      | some s' => rw [h2] at hs; simp at hs; exact ih s s' hs

theorem stepL_frame (d : Int × Int → List T → T) (b st s : List T) (p : Int × Int) (h : stepL d st p = some s) : stepL d (b ++ st) p = some (b ++ s) := by
  have hb := takesL_bd p.1
  unfold stepL at h ⊢
  split at h
  · cases h
  · rename_i hn
    cases h
    have e : (b ++ st).length - (takesL p.1).toNat = b.length + (st.length - (takesL p.1).toNat) := by simp; omega
    rw [if_neg (by simp only [List.length_append]; omega), e, List.take_length_add_append, List.drop_length_add_append, List.append_assoc]
theorem runL_frame (d : Int × Int → List T → T) (b : List T) (f : List (Int × Int)) (st s : List T) (h : runL d f st = some s) : runL d f (b ++ st) = some (b ++ s) := by
  induction f generalizing st with
  | nil => simp [runL] at h ⊢; exact h
  | cons p f ih =>
    simp only [runL] at h ⊢
    cases h1 : stepL d st p with
    | none => rw [h1] at h; cases h
    | some s1 =>
      rw [h1] at h
      rw [stepL_frame d b st s1 p h1]
      exact ih s1 h

/-- A formula that makes one: of any kind of answers, whatever lies ahead. -/
theorem one_of_deep (f : List (Int × Int)) (hf : deepL f ≠ 0) (z : T) (d : Int × Int → List T → T) : ∃ x, (∀ b, runL d f b = some (b ++ [x])) ∧ (foldL z d f) = (x, true) := by
  unfold deepL foldL at hf
  have hl := runL_length depthD d f [] [] rfl
  cases h1 : runL depthD f [] with
  | none => rw [h1] at hf; exact absurd rfl hf
  | some s =>
    rw [h1] at hl
    cases h2 : runL d f [] with
    | none => rw [h2] at hl; simp at hl
    | some s' =>
      rw [h2] at hl
      simp at hl
      match s, s' with
      | [], _ => rw [h1] at hf; exact absurd rfl hf
      | _ :: _ :: _, _ => rw [h1] at hf; exact absurd rfl hf
      | [_], [] => simp at hl
      | [_], _ :: _ :: _ => simp at hl
      | [_], [x] =>
        refine ⟨x, fun b => ?_, by unfold foldL; rw [h2]⟩
        have := runL_frame d b f [] [x] h2
        rwa [List.append_nil] at this

theorem run_not (d : Int × Int → List T → T) (b : List T) (x : T) : stepL d (b ++ [x]) (6, 0) = some (b ++ [d (6, 0) [x]]) := by
  unfold stepL takesL; simp; omega
theorem run_two (d : Int × Int → List T → T) (b : List T) (x y : T) (k : Int) (hk : k = 7 ∨ k = 8) : stepL d (b ++ [x] ++ [y]) (k, 0) = some (b ++ [d (k, 0) [x, y]]) := by
  unfold stepL takesL
  rcases hk with rfl | rfl
  all_goals
    have e : (b ++ [x] ++ [y]).length - Int.toNat 2 = b.length + 0 := by simp
    simp only [Int.reduceEq, or_self, or_true, true_or, if_true, if_false]
    rw [if_neg (by simp; omega), e, List.append_assoc, List.take_length_add_append, List.drop_length_add_append]
    simp
theorem foldl_max (l : List Int) (a : Int) : a ≤ l.foldl max a := by
  induction l generalizing a with
  | nil => simp
  | cons x l ih => exact Int.le_trans (Int.le_max_left a x) (ih (max a x))
theorem foldl_max_le (l : List Int) (a b : Int) (ha : a ≤ b) (h : ∀ x ∈ l, x ≤ b) : l.foldl max a ≤ b := by
  induction l generalizing a with
  | nil => simpa using ha
  | cons x l ih => exact ih _ (by have := h x (by simp); omega) (fun y hy => h y (List.mem_cons_of_mem _ hy))
theorem stepL_deep (st s : List Int) (p : Int × Int) (n : Int) (hn : 0 ≤ n) (h : stepL depthD st p = some s) (hs : ∀ x ∈ st, 0 < x ∧ x ≤ n) : ∀ x ∈ s, 0 < x ∧ x ≤ n + 1 := by
  unfold stepL at h
  split at h
  · cases h
  · cases h
    intro x hx
    rcases List.mem_append.1 hx with hx | hx
    · have := hs x (List.mem_of_mem_take hx); omega
    · simp only [List.mem_singleton] at hx
      subst hx
      unfold depthD
      have h1 := foldl_max (st.drop (st.length - (takesL p.1).toNat)) 0
      have h2 := foldl_max_le (st.drop (st.length - (takesL p.1).toNat)) 0 n hn (fun y hy => (hs y (List.mem_of_mem_drop hy)).2)
      omega
theorem runL_deep (f : List (Int × Int)) (st s : List Int) (n : Int) (hn : 0 ≤ n) (h : runL depthD f st = some s) (hs : ∀ x ∈ st, 0 < x ∧ x ≤ n) : ∀ x ∈ s, 0 < x ∧ x ≤ n + f.length := by
  induction f generalizing st n with
  | nil => simp only [runL, Option.some.injEq] at h; subst h; intro x hx; have := hs x hx; simp; omega
  | cons p f ih =>
    simp only [runL] at h
    cases h1 : stepL depthD st p with
    | none => rw [h1] at h; cases h
    | some s1 =>
      rw [h1] at h
      intro x hx
      have := ih s1 (n + 1) (by omega) h (stepL_deep st s1 p n hn h1 hs) x hx
      simp only [List.length_cons]; omega
theorem stepL_len (d : Int × Int → List T → T) (st s : List T) (p : Int × Int) (h : stepL d st p = some s) : s.length ≤ st.length + 1 := by
  unfold stepL at h
  split at h
  · cases h
  · cases h
    simp
theorem runL_len (d : Int × Int → List T → T) (f : List (Int × Int)) (st s : List T) (h : runL d f st = some s) : s.length ≤ st.length + f.length := by
  induction f generalizing st with
  | nil => simp only [runL, Option.some.injEq] at h; subst h; simp
  | cons p f ih =>
    simp only [runL] at h
    cases h1 : stepL d st p with
    | none => rw [h1] at h; cases h
    | some s1 =>
      rw [h1] at h
      have := ih s1 h
      have := stepL_len d st s1 p h1
      simp only [List.length_cons]; omega
theorem fold_of {z : T} {d : Int × Int → List T → T} {f : List (Int × Int)} {x : T} (h : runL d f [] = some [x]) : foldL z d f = (x, true) := by unfold foldL; rw [h]

theorem turns (ask : Int × Int → Bool) (f g : List (Int × Int)) (hf : deepL f ≠ 0) (hg : deepL g ≠ 0) :
    holdsL ask (f ++ g ++ [(7, 0), (6, 0)]) = holdsL ask (f ++ [(6, 0)] ++ g ++ [(6, 0), (8, 0)]) ∧ holdsL ask (f ++ [(6, 0), (6, 0)]) = holdsL ask f ∧ holdsL ask (f ++ f ++ [(8, 0)]) = holdsL ask f ∧
    deepL (f ++ [(6, 0), (6, 0)]) = deepL f + 2 ∧ deepL (f ++ g ++ [(7, 0), (6, 0)]) = 2 + max (deepL f) (deepL g) := by
  obtain ⟨x, hx, hx1⟩ := one_of_deep f hf false (holdsD ask)
  obtain ⟨y, hy, hy1⟩ := one_of_deep g hg false (holdsD ask)
  obtain ⟨m, hm, hm1⟩ := one_of_deep f hf 0 depthD
  obtain ⟨n, hn, hn1⟩ := one_of_deep g hg 0 depthD
  have em : deepL f = m := by unfold deepL; rw [hm1]
  have en : deepL g = n := by unfold deepL; rw [hn1]
  have ex : holdsL ask f = x := by unfold holdsL; rw [hx1]
  have hm0 : 0 ≤ m := by
    have := (runL_deep f [] [m] 0 (by omega) (hm []) (by simp) m (by simp)).1
    omega
  have hn0 : 0 ≤ n := by
    have := (runL_deep g [] [n] 0 (by omega) (hn []) (by simp) n (by simp)).1
    omega
  have n1 := fun b v => run_not (holdsD ask) b v
  have n2 := fun b v => run_not depthD b v
  have t1 := fun b u v k hk => run_two (holdsD ask) b u v k hk
  have t2 := fun b u v k hk => run_two depthD b u v k hk
  rw [em, en, ex]
  refine ⟨?_, ?_, ?_, ?_, ?_⟩
  · have a : runL (holdsD ask) (f ++ g ++ [(7, 0), (6, 0)]) [] = some [!(x && y)] := by
      rw [runL_append, runL_append, hx]
      simp only [Option.bind_some]
      rw [hy]
      simp only [Option.bind_some, runL]
      rw [t1 [] x y 7 (.inl rfl)]
      simp only [Option.bind_some]
      rw [n1]
      simp [holdsD]
    have b : runL (holdsD ask) (f ++ [(6, 0)] ++ g ++ [(6, 0), (8, 0)]) [] = some [!x || !y] := by
      rw [runL_append, runL_append, runL_append, hx]
      simp only [Option.bind_some, runL]
      rw [n1]
      simp only [Option.bind_some]
      rw [hy]
      simp only [Option.bind_some]
      rw [n1]
      simp only [Option.bind_some]
      rw [t1 [] _ _ 8 (.inr rfl)]
      simp [holdsD]
    unfold holdsL
    rw [fold_of a, fold_of b]
    cases x <;> cases y <;> rfl
  · have a : runL (holdsD ask) (f ++ [(6, 0), (6, 0)]) [] = some [x] := by
      rw [runL_append, hx]
      simp only [Option.bind_some, runL]
      rw [n1]
      simp only [Option.bind_some]
      rw [n1]
      simp [holdsD]
    unfold holdsL
    rw [fold_of a]
  · have a : runL (holdsD ask) (f ++ f ++ [(8, 0)]) [] = some [x] := by
      rw [runL_append, runL_append, hx]
      simp only [Option.bind_some, runL]
      rw [hx]
      simp only [Option.bind_some]
      rw [t1 [] x x 8 (.inr rfl)]
      simp [holdsD]
    unfold holdsL
    rw [fold_of a]
  · have a : runL depthD (f ++ [(6, 0), (6, 0)]) [] = some [m + 2] := by
      rw [runL_append, hm]
      simp only [Option.bind_some, runL]
      rw [n2]
      simp only [Option.bind_some]
      rw [n2]
      simp [depthD]
      omega
    unfold deepL
    rw [fold_of a]
  · have a : runL depthD (f ++ g ++ [(7, 0), (6, 0)]) [] = some [2 + max m n] := by
      rw [runL_append, runL_append, hm]
      simp only [Option.bind_some]
      rw [hn]
      simp only [Option.bind_some, runL]
      rw [t2 [] m n 7 (.inl rfl)]
      simp only [Option.bind_some]
      rw [n2]
      simp [depthD]
      omega
    unfold deepL
    rw [fold_of a]
end Go.Proofs.Ytmelefiodhnlpaa
