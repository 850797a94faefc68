/-
  The plain law of the hash: taking bytes in one by one comes to the same as block by block. No program in sight.
-/
import Derived.Test.YtnnllficjljjkaaSpec
namespace Go.Proofs.Ytnnllficjljjkaa

/-- What has been summed up so far. -/
structure St where
  h : Nat → BitVec 32
  b : Nat → BitVec 8
  n : Nat

def takeS (s : St) (x : BitVec 8) : St :=
  if s.n < 63 then ⟨s.h, upd s.b s.n x, s.n + 1⟩ else ⟨block K256 s.h (upd s.b s.n x), upd s.b s.n x, 0⟩
def st0 : St := ⟨H256, fun _ => 0, 0⟩
def takes (s : St) (m : List (BitVec 8)) : St := m.foldl takeS s

theorem takes_append (s : St) (a b : List (BitVec 8)) : takes s (a ++ b) = takes (takes s a) b := List.foldl_append
theorem takes_snoc (s : St) (a : List (BitVec 8)) (x : BitVec 8) : takes s (a ++ [x]) = takeS (takes s a) x := by rw [takes_append]; rfl
theorem takeS_lt (s : St) (x : BitVec 8) : (takeS s x).n < 64 := by
  unfold takeS; split
  · show s.n + 1 < 64; omega
  · show 0 < 64; omega
theorem takes_lt {s : St} (hs : s.n < 64) (m : List (BitVec 8)) : (takes s m).n < 64 := by
  unfold takes
  induction m generalizing s with
  | nil => exact hs
  | cons x m ih => exact ih (takeS_lt s x)
theorem takeS_n {s : St} (hs : s.n < 64) (x : BitVec 8) : (takeS s x).n = (s.n + 1) % 64 := by
  unfold takeS; split
  · show s.n + 1 = _; omega
  · show 0 = _; omega
theorem takes_n {s : St} (hs : s.n < 64) (m : List (BitVec 8)) : (takes s m).n = (s.n + m.length) % 64 := by
  unfold takes
  induction m generalizing s with
  | nil => simp; omega
  | cons x m ih =>
    show ((m.foldl takeS (takeS s x))).n = _
    rw [ih (takeS_lt s x), takeS_n hs, List.length_cons]; omega

/-! ### the bytes behind -/
def zeros (n : Nat) : Nat := (119 - n % 64) % 64
def lenByte (n : Nat) (i : Nat) : BitVec 8 := BitVec.ofNat 8 (8 * n / 2 ^ (8 * (7 - i)))
def lenBytes (n : Nat) : List (BitVec 8) := (List.range 8).map (lenByte n)
def pad (m : List (BitVec 8)) : List (BitVec 8) := m ++ [128] ++ List.replicate (zeros m.length) 0 ++ lenBytes m.length
/-- The hash's bytes. -/
def outOf (h : Nat → BitVec 32) (i : Nat) : BitVec 8 := (h (i / 4) >>> (24 - 8 * (i % 4))).setWidth 8
def sha (m : List (BitVec 8)) : Nat → BitVec 8 := outOf (takes st0 (pad m)).h

theorem lenBytes_take (n : Nat) {j : Nat} (h : j < 8) : (lenBytes n).take (j + 1) = (lenBytes n).take j ++ [lenByte n j] := by
  rw [List.take_succ_eq_append_getElem (by simp [lenBytes]; exact h)]
  simp [lenBytes]
theorem lenByte_val (n j : Nat) : B8 (lenByte n j) = ((8 * n / 2 ^ (8 * (7 - j)) % 256 : Nat) : Int) := by
  unfold lenByte B8; rw [BitVec.toNat_ofNat]
theorem pad_length (m : List (BitVec 8)) : (pad m).length % 64 = 0 := by
  unfold pad zeros lenBytes
  simp only [List.length_append, List.length_cons, List.length_nil, List.length_replicate, List.length_map, List.length_range]
  omega

/-! ### block by block -/
def acc (b : Nat → BitVec 8) (i : Nat) : Nat → BitVec 32
  | 0 => 0
  | r + 1 => acc b i r <<< 8 ||| wide (b (4 * i + r))
theorem sch1_acc (b : Nat → BitVec 8) (i : Nat) : ∀ k, sch1 b k i = acc b i (min 4 (k - 4 * i))
  | 0 => by simp [sch1, acc]
  | k + 1 => by
    have ih := sch1_acc b i k
    unfold sch1 upd
    by_cases e : i = k / 4
    · rw [if_pos e, ← e, ih]
      have h1 : min 4 (k - 4 * i) = k - 4 * i := by omega
      have h2 : min 4 (k + 1 - 4 * i) = (k - 4 * i) + 1 := by omega
      rw [h1, h2, acc, show 4 * i + (k - 4 * i) = k by omega]
    · rw [if_neg e, ih]
      congr 1
      omega
def word4 (b : Nat → BitVec 8) (i : Nat) : BitVec 32 := wide (b (4 * i)) <<< 24 ||| wide (b (4 * i + 1)) <<< 16 ||| wide (b (4 * i + 2)) <<< 8 ||| wide (b (4 * i + 3))
theorem acc_four (b : Nat → BitVec 8) (i : Nat) : acc b i 4 = word4 b i := by
  simp only [acc, word4, BitVec.shiftLeft_or_distrib, ← BitVec.shiftLeft_add]
  simp
/-- The first sixteen words at once. -/
def words (b : Nat → BitVec 8) (i : Nat) : BitVec 32 := if i < 16 then word4 b i else 0
theorem sch1_words (b : Nat → BitVec 8) : sch1 b 64 = words b := by
  funext i
  rw [sch1_acc]
  unfold words
  by_cases h : i < 16
  · rw [if_pos h, show min 4 (64 - 4 * i) = 4 by omega, acc_four]
  · rw [if_neg h, show min 4 (64 - 4 * i) = 0 by omega]; rfl

theorem sch1_congr {b b' : Nat → BitVec 8} : ∀ k, (∀ i, i < k → b i = b' i) → sch1 b k = sch1 b' k
  | 0, _ => rfl
  | k + 1, h => by
    have ih := sch1_congr k (fun i hi => h i (by omega))
    unfold sch1
    rw [ih, h k (by omega)]
theorem block_congr {K h : Nat → BitVec 32} {b b' : Nat → BitVec 8} (hb : ∀ i, i < 64 → b i = b' i) : block K h b = block K h b' := by
  unfold block sched
  rw [sch1_congr 64 hb]

/-- The words behind k blocks of a list. -/
def blocks (m : Nat → BitVec 8) : Nat → Nat → BitVec 32
  | 0 => H256
  | k + 1 => block K256 (blocks m k) (fun j => m (64 * k + j))

theorem takes_part (h : Nat → BitVec 32) : ∀ (c : List (BitVec 8)) (b : Nat → BitVec 8) (n : Nat), n + c.length < 64 →
    ∃ b', takes ⟨h, b, n⟩ c = ⟨h, b', n + c.length⟩ ∧ (∀ i, i < n → b' i = b i) ∧ ∀ i (hi : i < c.length), b' (n + i) = c[i]
  | [], b, n, _ => ⟨b, rfl, fun _ _ => rfl, fun i hi => absurd hi (by simp)⟩
  | x :: c, b, n, hn => by
    simp only [List.length_cons] at hn
    obtain ⟨b', e, h1, h2⟩ := takes_part h c (upd b n x) (n + 1) (by omega)
    refine ⟨b', ?_, ?_, ?_⟩
    · show takes (takeS ⟨h, b, n⟩ x) c = _
      have : takeS ⟨h, b, n⟩ x = ⟨h, upd b n x, n + 1⟩ := by unfold takeS; rw [if_pos (by show n < 63; omega)]
      rw [this, e]
      congr 1
      simp only [List.length_cons]; omega
    · intro i hi
      rw [h1 i (by omega)]; unfold upd; rw [if_neg (by omega)]
    · intro i hi
      cases i with
      | zero => rw [Nat.add_zero, h1 n (by omega)]; simp [upd]
      | succ i =>
        have := h2 i (by simpa using hi)
        rw [show n + (i + 1) = n + 1 + i by omega, this]; rfl

theorem takes_block (h : Nat → BitVec 32) (b : Nat → BitVec 8) (c : List (BitVec 8)) (hc : c.length = 64) : ∃ b', takes ⟨h, b, 0⟩ c = ⟨block K256 h (fun j => c.getD j 0), b', 0⟩ := by
  have hne : c ≠ [] := fun e => by rw [e] at hc; cases hc
  obtain ⟨b', e, _, h2⟩ := takes_part h c.dropLast b 0 (by rw [List.length_dropLast]; omega)
  have hs : c.dropLast ++ [c.getLast hne] = c := List.dropLast_concat_getLast hne
  have hl : c.dropLast.length = 63 := by rw [List.length_dropLast]; omega
  have hT : takes ⟨h, b, 0⟩ c = takeS (takes ⟨h, b, 0⟩ c.dropLast) (c.getLast hne) := by
    rw [← takes_snoc, hs]
  have hb : block K256 h (upd b' 63 (c.getLast hne)) = block K256 h (fun j => c.getD j 0) := by
    refine block_congr fun i hi => ?_
    unfold upd
    by_cases e63 : i = 63
    · subst e63
      rw [if_pos rfl, List.getD_eq_getElem?_getD, List.getElem?_eq_getElem (by omega), Option.getD_some, List.getLast_eq_getElem]
      congr 1
      omega
    · rw [if_neg e63]
      have := h2 i (by omega)
      rw [Nat.zero_add] at this
      rw [this, List.getD_eq_getElem?_getD, List.getElem?_eq_getElem (by omega), Option.getD_some, List.getElem_dropLast]
  refine ⟨upd b' 63 (c.getLast hne), ?_⟩
  rw [hT, e, hl]
  unfold takeS
  rw [if_neg (by simp)]
  simp only [Nat.zero_add]
  rw [hb]

theorem takes_blocks (m : Nat → BitVec 8) : ∀ (q k : Nat) (p : List (BitVec 8)) (b : Nat → BitVec 8), p.length = 64 * q → (∀ i, i < p.length → p.getD i 0 = m (64 * k + i)) →
    ∃ b', takes ⟨blocks m k, b, 0⟩ p = ⟨blocks m (k + q), b', 0⟩
  | 0, k, p, b, hl, _ => by
    have : p = [] := List.eq_nil_of_length_eq_zero (by omega)
    subst this
    exact ⟨b, rfl⟩
  | q + 1, k, p, b, hl, hm => by
    have hs : p = p.take 64 ++ p.drop 64 := (List.take_append_drop 64 p).symm
    have h64 : (p.take 64).length = 64 := by rw [List.length_take]; omega
    obtain ⟨b1, e1⟩ := takes_block (blocks m k) b (p.take 64) h64
    have eb : block K256 (blocks m k) (fun j => (p.take 64).getD j 0) = blocks m (k + 1) := by
      refine block_congr fun i hi => ?_
      rw [← hm i (by omega), List.getD_eq_getElem?_getD, List.getD_eq_getElem?_getD, List.getElem?_take_of_lt hi]
    rw [eb] at e1
    obtain ⟨b2, e2⟩ := takes_blocks m q (k + 1) (p.drop 64) b1 (by rw [List.length_drop]; omega) (fun i hi => by
      rw [List.length_drop] at hi
      rw [List.getD_eq_getElem?_getD, List.getElem?_drop, ← List.getD_eq_getElem?_getD, hm (64 + i) (by omega)]
      congr 1; omega)
    refine ⟨b2, ?_⟩
    rw [hs, takes_append, e1, e2]
    congr 2
    omega

/-- The hash of a list, block by block. -/
theorem sha_blocks (m : List (BitVec 8)) : sha m = outOf (blocks (fun i => (pad m).getD i 0) ((pad m).length / 64)) := by
  have hl := pad_length m
  obtain ⟨b', e⟩ := takes_blocks (fun i => (pad m).getD i 0) ((pad m).length / 64) 0 (pad m) (fun _ => 0) (by omega) (fun i _ => by simp)
  unfold sha st0
  rw [show H256 = blocks (fun i => (pad m).getD i 0) 0 from rfl, e, Nat.zero_add]

end Go.Proofs.Ytnnllficjljjkaa
