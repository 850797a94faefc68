/-
  The plain law of trees of hashes: the root, a list's path, and that climbing by the bits of a place is climbing by the halves. No program in sight.
-/
import Derived.Test.YtnnllficjljjkaaHash
namespace Go.Proofs.Ytnnllficjljjkaa

set_option linter.unusedVariables false
abbrev Byte := BitVec 8
/-- A hash's bytes as a list. -/
def num32 (f : Nat → Byte) : List Byte := (List.range 32).map f
theorem num32_length (f : Nat → Byte) : (num32 f).length = 32 := by simp [num32]
theorem num32_congr {f g : Nat → Byte} (h : ∀ i, i < 32 → f i = g i) : num32 f = num32 g := List.map_congr_left fun i hi => h i (List.mem_range.1 hi)
def leafS (b : List Byte) : Nat → Byte := sha (0 :: b)
def nodeS (a b : Nat → Byte) : Nat → Byte := sha (1 :: (num32 a ++ num32 b))

/-- The greatest power of 2 below a number. -/
def cutN (n : Nat) : Nat := 2 ^ (n - 1).log2
theorem cutN_pos (n : Nat) : 0 < cutN n := Nat.pow_pos (by omega)
theorem cutN_lt {n : Nat} (h : 2 ≤ n) : cutN n < n := by
  have := Nat.log2_self_le (n := n - 1) (by omega)
  unfold cutN; omega
theorem cutN_ge {n : Nat} (h : 2 ≤ n) : n ≤ 2 * cutN n := by
  have := Nat.lt_log2_self (n := n - 1)
  unfold cutN
  rw [Nat.pow_succ] at this
  omega
theorem cutN_of {n j : Nat} (h1 : 2 ^ j < n) (h2 : n ≤ 2 ^ (j + 1)) : cutN n = 2 ^ j := by
  unfold cutN
  congr 1
  have hp := Nat.pow_pos (n := j) (show 0 < 2 by omega)
  rw [Nat.log2_eq_iff (by omega)]
  omega

def rootS (l : List (List Byte)) : Nat → Byte :=
  if h : 2 ≤ l.length then nodeS (rootS (l.take (cutN l.length))) (rootS (l.drop (cutN l.length)))
  else match l with
    | [] => sha []
    | b :: _ => leafS b
termination_by l.length
decreasing_by
  · rw [List.length_take]; have := cutN_lt h; omega
  · rw [List.length_drop]; have := cutN_pos l.length; omega
theorem rootS_nil : rootS [] = sha [] := by rw [rootS, dif_neg (by simp)]
theorem rootS_one (b : List Byte) : rootS [b] = leafS b := by rw [rootS, dif_neg (by simp)]
theorem rootS_two {l : List (List Byte)} (h : 2 ≤ l.length) : rootS l = nodeS (rootS (l.take (cutN l.length))) (rootS (l.drop (cutN l.length))) := by rw [rootS, dif_pos h]

def pathS (l : List (List Byte)) (i : Nat) : List (Nat → Byte) :=
  if h : 2 ≤ l.length then
    if i < cutN l.length then pathS (l.take (cutN l.length)) i ++ [rootS (l.drop (cutN l.length))]
    else pathS (l.drop (cutN l.length)) (i - cutN l.length) ++ [rootS (l.take (cutN l.length))]
  else []
termination_by l.length
decreasing_by
  · rw [List.length_take]; have := cutN_lt h; omega
  · rw [List.length_drop]; have := cutN_pos l.length; omega
theorem pathS_one {l : List (List Byte)} (i : Nat) (h : l.length < 2) : pathS l i = [] := by rw [pathS, dif_neg (by omega)]
theorem pathS_left {l : List (List Byte)} {i : Nat} (h : 2 ≤ l.length) (hi : i < cutN l.length) : pathS l i = pathS (l.take (cutN l.length)) i ++ [rootS (l.drop (cutN l.length))] := by rw [pathS, dif_pos h, if_pos hi]
theorem pathS_right {l : List (List Byte)} {i : Nat} (h : 2 ≤ l.length) (hi : ¬ i < cutN l.length) : pathS l i = pathS (l.drop (cutN l.length)) (i - cutN l.length) ++ [rootS (l.take (cutN l.length))] := by rw [pathS, dif_pos h, if_neg hi]

/-- The reference's climb, from the top. -/
def upS (n i : Nat) (b : List Byte) (p : List (Nat → Byte)) : Option (Nat → Byte) :=
  if h : 2 ≤ n then
    match p.getLast? with
    | none => none
    | some o =>
      if i < cutN n then (upS (cutN n) i b p.dropLast).map fun h => nodeS h o
      else (upS (n - cutN n) (i - cutN n) b p.dropLast).map fun h => nodeS o h
  else if p = [] then some (leafS b) else none
termination_by n
decreasing_by
  · exact cutN_lt h
  · have := cutN_pos n; omega

/-- The program's climb, from below; 'last' is the last place of the row. -/
def climb (last i : Nat) (h : Nat → Byte) (p : List (Nat → Byte)) : Option (Nat → Byte) :=
  if hl : last = 0 then (if p = [] then some h else none)
  else if i % 2 = 0 ∧ i = last then climb (last / 2) (i / 2) h p
  else match p with
    | [] => none
    | o :: p => climb (last / 2) (i / 2) (if i % 2 = 1 then nodeS o h else nodeS h o) p
termination_by last
decreasing_by all_goals omega

/-- On which side what stands beside lies, from below (true: left). -/
def pdirs (last i : Nat) : List Bool :=
  if hl : last = 0 then []
  else if i % 2 = 0 ∧ i = last then pdirs (last / 2) (i / 2)
  else decide (i % 2 = 1) :: pdirs (last / 2) (i / 2)
termination_by last
decreasing_by all_goals omega

def dirs (n i : Nat) : List Bool :=
  if h : 2 ≤ n then
    if i < cutN n then dirs (cutN n) i ++ [false] else dirs (n - cutN n) (i - cutN n) ++ [true]
  else []
termination_by n
decreasing_by
  · exact cutN_lt h
  · have := cutN_pos n; omega

def applyD : List Bool → (Nat → Byte) → List (Nat → Byte) → Option (Nat → Byte)
  | [], h, [] => some h
  | [], _, _ :: _ => none
  | _ :: _, _, [] => none
  | d :: ds, h, o :: p => applyD ds (if d then nodeS o h else nodeS h o) p

theorem climb_apply (last : Nat) : ∀ (i : Nat) (h : Nat → Byte) (p : List (Nat → Byte)), climb last i h p = applyD (pdirs last i) h p := by
  induction last using Nat.strongRecOn with
  | _ last ih =>
    intro i h p
    rw [pdirs]
    by_cases hl : last = 0
    · rw [dif_pos hl, climb.eq_def, dif_pos hl]
      cases p <;> simp [applyD]
    · rw [dif_neg hl]
      by_cases he : i % 2 = 0 ∧ i = last
      · rw [if_pos he, climb.eq_def, dif_neg hl, if_pos he]
        exact ih _ (by omega) _ _ _
      · rw [if_neg he]
        cases p with
        | nil => rw [climb.eq_def, dif_neg hl, if_neg he]; rfl
        | cons o p =>
          rw [climb.eq_def, dif_neg hl, if_neg he]
          show climb _ _ _ _ = applyD (pdirs (last / 2) (i / 2)) (if decide (i % 2 = 1) = true then nodeS o h else nodeS h o) p
          rw [ih _ (by omega)]
          by_cases h2 : i % 2 = 1
          · rw [if_pos h2, if_pos (decide_eq_true h2)]
          · rw [if_neg h2, if_neg (by simpa using h2)]

theorem applyD_snoc_nil : ∀ (ds : List Bool) (d : Bool) (h : Nat → Byte), applyD (ds ++ [d]) h [] = none
  | [], _, _ => rfl
  | _ :: _, _, _ => rfl
theorem applyD_snoc : ∀ (ds : List Bool) (d : Bool) (h : Nat → Byte) (q : List (Nat → Byte)) (o : Nat → Byte),
    applyD (ds ++ [d]) h (q ++ [o]) = (applyD ds h q).map fun h => if d then nodeS o h else nodeS h o
  | [], _, _, [], _ => rfl
  | [], _, _, _ :: [], _ => rfl
  | [], _, _, _ :: _ :: _, _ => rfl
  | _ :: ds, d, h, [], o => by
    show applyD (ds ++ [d]) _ [] = none
    exact applyD_snoc_nil _ _ _
  | _ :: ds, d, h, x :: q, o => applyD_snoc ds d _ q o

theorem up_apply (n : Nat) : ∀ (i : Nat) (b : List Byte) (p : List (Nat → Byte)), upS n i b p = applyD (dirs n i) (leafS b) p := by
  induction n using Nat.strongRecOn with
  | _ n ih =>
    intro i b p
    rw [upS, dirs]
    by_cases hn : 2 ≤ n
    · rw [dif_pos hn, dif_pos hn]
      by_cases hp : p = []
      · subst hp
        by_cases hi : i < cutN n
        · rw [if_pos hi, applyD_snoc_nil]; rfl
        · rw [if_neg hi, applyD_snoc_nil]; rfl
      · have e : p = p.dropLast ++ [p.getLast hp] := (List.dropLast_concat_getLast hp).symm
        rw [List.getLast?_eq_some_getLast hp]
        show (if i < cutN n then _ else _) = _
        by_cases hi : i < cutN n
        · rw [if_pos hi, if_pos hi, ih _ (cutN_lt hn)]
          conv => rhs; rw [e]
          rw [applyD_snoc]; rfl
        · rw [if_neg hi, if_neg hi, ih _ (by have := cutN_pos n; omega)]
          conv => rhs; rw [e]
          rw [applyD_snoc]; rfl
    · rw [dif_neg hn, dif_neg hn]
      cases p <;> simp [applyD]

theorem pdirs_zero (i : Nat) : pdirs 0 i = [] := by rw [pdirs, dif_pos rfl]
theorem pdirs_up {last i : Nat} (hl : last ≠ 0) (h : i % 2 = 0 ∧ i = last) : pdirs last i = pdirs (last / 2) (i / 2) := by rw [pdirs, dif_neg hl, if_pos h]
theorem pdirs_step {last i : Nat} (hl : last ≠ 0) (h : ¬ (i % 2 = 0 ∧ i = last)) : pdirs last i = decide (i % 2 = 1) :: pdirs (last / 2) (i / 2) := by rw [pdirs, dif_neg hl, if_neg h]

theorem pdirs_left : ∀ (m i l : Nat), i < 2 ^ m → l < 2 ^ m → pdirs (2 ^ m + l) i = pdirs (2 ^ m - 1) i ++ [false]
  | 0, i, l, hi, hl => by
    obtain rfl : i = 0 := by omega
    obtain rfl : l = 0 := by omega
    rw [pdirs_step (by decide) (by decide), show (2 ^ 0 + 0) / 2 = 0 from rfl, pdirs_zero]; rfl
  | m + 1, i, l, hi, hl => by
    have hp := Nat.pow_pos (n := m) (show 0 < 2 by omega)
    rw [Nat.pow_succ] at hi hl ⊢
    rw [pdirs_step (by omega) (by omega), pdirs_step (last := 2 ^ m * 2 - 1) (by omega) (by omega)]
    rw [show (2 ^ m * 2 + l) / 2 = 2 ^ m + l / 2 by omega, show (2 ^ m * 2 - 1) / 2 = 2 ^ m - 1 by omega, pdirs_left m (i / 2) (l / 2) (by omega) (by omega)]
    rfl
theorem pdirs_right : ∀ (m i l : Nat), i ≤ l → l < 2 ^ m → pdirs (2 ^ m + l) (2 ^ m + i) = pdirs l i ++ [true]
  | 0, i, l, hi, hl => by
    obtain rfl : l = 0 := by omega
    obtain rfl : i = 0 := by omega
    rw [pdirs_step (by decide) (by decide), show (2 ^ 0 + 0) / 2 = 0 from rfl, pdirs_zero]; rfl
  | m + 1, i, l, hi, hl => by
    have hp := Nat.pow_pos (n := m) (show 0 < 2 by omega)
    rw [Nat.pow_succ] at hl ⊢
    have ih := pdirs_right m (i / 2) (l / 2) (by omega) (by omega)
    by_cases h0 : l = 0
    · subst h0
      obtain rfl : i = 0 := by omega
      rw [pdirs_up (by omega) (by omega), show (2 ^ m * 2 + 0) / 2 = 2 ^ m + 0 / 2 by omega, ih]
    · by_cases he : i % 2 = 0 ∧ i = l
      · rw [pdirs_up (by omega) (by omega), pdirs_up (last := l) h0 he]
        rw [show (2 ^ m * 2 + l) / 2 = 2 ^ m + l / 2 by omega, show (2 ^ m * 2 + i) / 2 = 2 ^ m + i / 2 by omega, ih]
      · rw [pdirs_step (by omega) (by omega), pdirs_step (last := l) h0 he]
        rw [show (2 ^ m * 2 + l) / 2 = 2 ^ m + l / 2 by omega, show (2 ^ m * 2 + i) / 2 = 2 ^ m + i / 2 by omega, ih, show (2 ^ m * 2 + i) % 2 = i % 2 by omega]
        rfl

theorem dirs_one {n : Nat} (i : Nat) (h : n < 2) : dirs n i = [] := by rw [dirs, dif_neg (by omega)]
theorem dirs_left {n i : Nat} (h : 2 ≤ n) (hi : i < cutN n) : dirs n i = dirs (cutN n) i ++ [false] := by rw [dirs, dif_pos h, if_pos hi]
theorem dirs_right {n i : Nat} (h : 2 ≤ n) (hi : ¬ i < cutN n) : dirs n i = dirs (n - cutN n) (i - cutN n) ++ [true] := by rw [dirs, dif_pos h, if_neg hi]

theorem dirs_pdirs (n : Nat) : ∀ i, i < n → dirs n i = pdirs (n - 1) i := by
  induction n using Nat.strongRecOn with
  | _ n ih =>
    intro i hi
    by_cases hn : 2 ≤ n
    · have h1 := cutN_lt hn
      have h2 := cutN_ge hn
      have h3 := cutN_pos n
      by_cases hc : i < cutN n
      · rw [dirs_left hn hc, ih _ h1 _ hc]
        have e : cutN n = 2 ^ (n - 1).log2 := rfl
        have := pdirs_left (n - 1).log2 i (n - 1 - cutN n) (by omega) (by omega)
        rw [← e, show cutN n + (n - 1 - cutN n) = n - 1 by omega] at this
        exact this.symm
      · rw [dirs_right hn hc, ih _ (by omega) _ (by omega)]
        have e : cutN n = 2 ^ (n - 1).log2 := rfl
        have := pdirs_right (n - 1).log2 (i - cutN n) (n - 1 - cutN n) (by omega) (by omega)
        rw [← e, show cutN n + (n - 1 - cutN n) = n - 1 by omega, show cutN n + (i - cutN n) = i by omega] at this
        rw [this, show n - cutN n - 1 = n - 1 - cutN n by omega]
    · rw [dirs_one i (by omega), show n - 1 = 0 by omega, pdirs_zero]

/-- Both climbs are one. -/
theorem climb_up {n i : Nat} (b : List Byte) (p : List (Nat → Byte)) (h : i < n) : climb (n - 1) i (leafS b) p = upS n i b p := by
  rw [climb_apply, up_apply, dirs_pdirs n i h]

/-- A list's path leads to the root. -/
theorem path_root (n : Nat) : ∀ (l : List (List Byte)) (i : Nat) (hi : i < l.length), l.length = n → applyD (dirs n i) (leafS l[i]) (pathS l i) = some (rootS l) := by
  induction n using Nat.strongRecOn with
  | _ n ih =>
    intro l i hi hn
    by_cases h2 : 2 ≤ n
    · have h1 := cutN_lt h2
      have h3 := cutN_pos n
      by_cases hc : i < cutN n
      · rw [dirs_left h2 hc, pathS_left (by omega) (by rw [hn]; exact hc), applyD_snoc, rootS_two (l := l) (by omega), hn]
        have := ih _ h1 (l.take (cutN n)) i (by rw [List.length_take]; omega) (by rw [List.length_take]; omega)
        rw [List.getElem_take] at this
        rw [this]; rfl
      · rw [dirs_right h2 hc, pathS_right (by omega) (by rw [hn]; exact hc), applyD_snoc, rootS_two (l := l) (by omega), hn]
        have := ih _ (show n - cutN n < n by omega) (l.drop (cutN n)) (i - cutN n) (by rw [List.length_drop]; omega) (by rw [List.length_drop]; omega)
        rw [List.getElem_drop] at this
        simp only [show cutN n + (i - cutN n) = i by omega] at this
        rw [this]; rfl
    · obtain ⟨b, rfl⟩ := List.length_eq_one_iff.1 (show l.length = 1 by omega)
      obtain rfl : i = 0 := by simpa using hi
      rw [dirs_one _ (by omega), pathS_one _ (by simp), rootS_one]; rfl

theorem path_climb {l : List (List Byte)} {i : Nat} (hi : i < l.length) : climb (l.length - 1) i (leafS l[i]) (pathS l i) = some (rootS l) := by
  rw [climb_apply, ← dirs_pdirs _ _ hi]
  exact path_root _ l i hi rfl

theorem pathS_length (n : Nat) : ∀ (l : List (List Byte)) (i : Nat), i < l.length → l.length = n → (pathS l i).length = (dirs n i).length := by
  induction n using Nat.strongRecOn with
  | _ n ih =>
    intro l i hi hn
    by_cases h2 : 2 ≤ n
    · have h1 := cutN_lt h2
      have h3 := cutN_pos n
      by_cases hc : i < cutN n
      · rw [dirs_left h2 hc, pathS_left (by omega) (by rw [hn]; exact hc), List.length_append, List.length_append, hn, ih _ h1 _ i (by rw [List.length_take]; omega) (by rw [List.length_take]; omega)]; rfl
      · rw [dirs_right h2 hc, pathS_right (by omega) (by rw [hn]; exact hc), List.length_append, List.length_append, hn, ih _ (show n - cutN n < n by omega) _ _ (by rw [List.length_drop]; omega) (by rw [List.length_drop]; omega)]; rfl
    · rw [dirs_one _ (by omega), pathS_one _ (by omega)]; rfl

theorem dirs_le : ∀ (m n i : Nat), i < n → n ≤ 2 ^ m → (dirs n i).length ≤ m
  | 0, n, i, hi, hn => by rw [dirs_one _ (by omega)]; simp
  | m + 1, n, i, hi, hn => by
    by_cases h2 : 2 ≤ n
    · have h1 := cutN_lt h2
      have h3 := cutN_pos n
      have h4 := cutN_ge h2
      have hk : cutN n ≤ 2 ^ m := by
        unfold cutN
        refine Nat.pow_le_pow_right (by omega) ?_
        have : (n - 1).log2 < m + 1 := (Nat.log2_lt (by omega)).2 (by omega)
        omega
      by_cases hc : i < cutN n
      · rw [dirs_left h2 hc, List.length_append]
        have := dirs_le m (cutN n) i hc hk
        simp only [List.length_cons, List.length_nil]; omega
      · rw [dirs_right h2 hc, List.length_append]
        have := dirs_le m (n - cutN n) (i - cutN n) (by omega) (by omega)
        simp only [List.length_cons, List.length_nil]; omega
    · rw [dirs_one _ (by omega)]; simp
theorem dirs_full : ∀ (m i : Nat), i < 2 ^ m → (dirs (2 ^ m) i).length = m
  | 0, i, hi => by rw [dirs_one _ (by decide)]; rfl
  | m + 1, i, hi => by
    have hp := Nat.pow_pos (n := m) (show 0 < 2 by omega)
    have hs : 2 ^ (m + 1) = 2 ^ m * 2 := Nat.pow_succ ..
    have hc : cutN (2 ^ (m + 1)) = 2 ^ m := cutN_of (by omega) (Nat.le_refl _)
    by_cases h : i < 2 ^ m
    · rw [dirs_left (by omega) (by rw [hc]; exact h), List.length_append, hc, dirs_full m i h]; rfl
    · rw [dirs_right (by omega) (by rw [hc]; exact h), List.length_append, hc, show 2 ^ (m + 1) - 2 ^ m = 2 ^ m by omega, dirs_full m _ (by omega)]; rfl

end Go.Proofs.Ytnnllficjljjkaa
