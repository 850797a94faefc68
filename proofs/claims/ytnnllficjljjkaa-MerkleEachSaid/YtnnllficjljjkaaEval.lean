/-
  The hash of a list that is given, reckoned by the kernel: the same as the plain functions, in an order that does each step once. No program in sight.
-/
import Derived.Test.YtnnllficjljjkaaHash
namespace Go.Proofs.Ytnnllficjljjkaa

/-- The rest, with a number that has been reckoned. -/
def forceN {α : Type} (n : Nat) (k : Nat → α) : α := match n with | 0 => k 0 | m + 1 => k (m + 1)
theorem forceN_eq {α : Type} (n : Nat) (k : Nat → α) : forceN n k = k n := by cases n <;> rfl
def forceB {α : Type} (x : BitVec 32) (k : BitVec 32 → α) : α := forceN x.toNat fun n => k (BitVec.ofNat 32 n)
theorem forceB_eq {α : Type} (x : BitVec 32) (k : BitVec 32 → α) : forceB x k = k x := by
  unfold forceB; rw [forceN_eq, BitVec.ofNat_toNat, BitVec.setWidth_eq]

/-- Rounds, with the next sixteen words at hand. -/
def goR : Nat → Nat → List (BitVec 32) → BitVec 32 → BitVec 32 → BitVec 32 → BitVec 32 → BitVec 32 → BitVec 32 → BitVec 32 → BitVec 32 → List (BitVec 32)
  | 0, _, _, a, b, c, d, e, f, g, h => [a, b, c, d, e, f, g, h]
  | n + 1, t, w, a, b, c, d, e, f, g, h =>
    forceB (h + Sig1 e + (e &&& f ^^^ ~~~e &&& g) + K256 t + w.getD 0 0) fun x =>
    forceB (x + (Sig0 a + (a &&& b ^^^ a &&& c ^^^ b &&& c))) fun y =>
    forceB (d + x) fun z =>
    forceB (sig1 (w.getD 14 0) + w.getD 9 0 + sig0 (w.getD 1 0) + w.getD 0 0) fun u =>
    goR n (t + 1) (w.tail ++ [u]) y a b c z e f g

theorem sch2_old (W : Nat → BitVec 32) : ∀ k n j, j < k → sch2 W (k + n) j = sch2 W k j
  | _, 0, _, _ => rfl
  | k, n + 1, j, h => by
    rw [← Nat.add_assoc, sch2]
    split
    · rw [sch2_low W k (by omega)]
    · unfold upd
      rw [if_neg (by omega)]
      exact sch2_old W k n j h
theorem schStep_congr {f g : Nat → BitVec 32} {k : Nat} (hk : 16 ≤ k) (h : ∀ j, j < k → f j = g j) : schStep f k = schStep g k := by
  unfold schStep
  rw [h (k - 2) (by omega), h (k - 7) (by omega), h (k - 15) (by omega), h (k - 16) (by omega)]
theorem sched_step (b : Nat → BitVec 8) {k : Nat} (h1 : 16 ≤ k) (h2 : k < 64) : sched b k = schStep (sched b) k := by
  have e : sched b = sch2 (sch1 b 64) 64 := rfl
  have h3 : sch2 (sch1 b 64) 64 k = sch2 (sch1 b 64) (k + 1) k := by
    have := sch2_old (sch1 b 64) (k + 1) (63 - k) k (by omega)
    rwa [show k + 1 + (63 - k) = 64 by omega] at this
  rw [e, h3, sch2_step _ h1]
  simp only [upd, if_true]
  refine schStep_congr h1 fun j hj => ?_
  have := sch2_old (sch1 b 64) k (64 - k) j hj
  rw [show k + (64 - k) = 64 by omega] at this
  exact this.symm
theorem sched_first (b : Nat → BitVec 8) {k : Nat} (h : k < 16) : sched b k = word4 b k := by
  have e : sched b = sch2 (sch1 b 64) 64 := rfl
  have := sch2_old (sch1 b 64) 16 48 k h
  rw [e, show (64 : Nat) = 16 + 48 from rfl, this, sch2_low _ _ (Nat.le_refl _), sch1_words]
  unfold words; rw [if_pos h]

theorem goR_eq (b : Nat → BitVec 8) (h : Nat → BitVec 32) : ∀ (n t : Nat) (w : List (BitVec 32)), t + n = 64 → w.length = 16 → (∀ j, j < 16 → t + j < 64 → w.getD j 0 = sched b (t + j)) →
    goR n t w (rnds K256 (sched b) h t 0) (rnds K256 (sched b) h t 1) (rnds K256 (sched b) h t 2) (rnds K256 (sched b) h t 3) (rnds K256 (sched b) h t 4) (rnds K256 (sched b) h t 5) (rnds K256 (sched b) h t 6) (rnds K256 (sched b) h t 7)
      = (List.range 8).map (rnds K256 (sched b) h 64)
  | 0, t, w, ht, _, _ => by
    obtain rfl : t = 64 := by omega
    rfl
  | n + 1, t, w, ht, hl, hw => by
    have ih := goR_eq b h n (t + 1) (w.tail ++ [sig1 (w.getD 14 0) + w.getD 9 0 + sig0 (w.getD 1 0) + w.getD 0 0]) (by omega) (by simp; omega) (by
      intro j hj hlt
      by_cases e : j = 15
      · subst e
        rw [List.getD_eq_getElem?_getD, List.getElem?_append_right (by simp; omega)]
        simp only [List.length_tail, hl]
        show (_ : BitVec 32) = _
        rw [sched_step b (by omega) hlt]
        unfold schStep
        rw [hw 14 (by omega) (by omega), hw 9 (by omega) (by omega), hw 1 (by omega) (by omega), hw 0 (by omega) (by omega)]
        rw [show t + 1 + 15 - 2 = t + 14 by omega, show t + 1 + 15 - 7 = t + 9 by omega, show t + 1 + 15 - 15 = t + 1 by omega, show t + 1 + 15 - 16 = t + 0 by omega]
        rfl
      · rw [List.getD_eq_getElem?_getD, List.getElem?_append_left (by simp; omega), List.getElem?_tail, ← List.getD_eq_getElem?_getD, hw (j + 1) (by omega) (by omega)]
        congr 1; omega)
    have h0 : w.getD 0 0 = sched b t := hw 0 (by omega) (by omega)
    rw [goR, forceB_eq, forceB_eq, forceB_eq, forceB_eq]
    rw [← ih, h0]
    rfl

/-- A block. -/
def blockL (w : List (BitVec 32)) (h : List (BitVec 32)) : List (BitVec 32) :=
  List.zipWith (· + ·) h (goR 64 0 w (h.getD 0 0) (h.getD 1 0) (h.getD 2 0) (h.getD 3 0) (h.getD 4 0) (h.getD 5 0) (h.getD 6 0) (h.getD 7 0))

theorem blockL_eq (b : Nat → BitVec 8) (h : Nat → BitVec 32) : blockL ((List.range 16).map (word4 b)) ((List.range 8).map h) = (List.range 8).map (block K256 h b) := by
  unfold blockL
  have := goR_eq b h 64 0 ((List.range 16).map (word4 b)) rfl (by simp) (by
    intro j hj _
    rw [Nat.zero_add, sched_first b hj, List.getD_eq_getElem?_getD]
    simp [hj])
  have e : goR 64 0 ((List.range 16).map (word4 b)) (((List.range 8).map h).getD 0 0) (((List.range 8).map h).getD 1 0) (((List.range 8).map h).getD 2 0) (((List.range 8).map h).getD 3 0) (((List.range 8).map h).getD 4 0) (((List.range 8).map h).getD 5 0) (((List.range 8).map h).getD 6 0) (((List.range 8).map h).getD 7 0)
    = (List.range 8).map (rnds K256 (sched b) h 64) := this
  rw [e]
  rfl

/-- The words behind so many blocks. -/
def blocksL (m : Nat → BitVec 8) : Nat → List (BitVec 32)
  | 0 => (List.range 8).map H256
  | k + 1 => blockL ((List.range 16).map (word4 fun j => m (64 * k + j))) (blocksL m k)
theorem blocksL_eq (m : Nat → BitVec 8) : ∀ k, blocksL m k = (List.range 8).map (blocks m k)
  | 0 => rfl
  | k + 1 => by
    unfold blocksL blocks
    rw [blocksL_eq m k, blockL_eq]

theorem sha_at (m : List (BitVec 8)) (hs : List (BitVec 32)) (h : blocksL (fun i => (pad m).getD i 0) ((pad m).length / 64) = hs) {i : Nat} (hi : i < 32) : sha m i = outOf (fun j => hs.getD j 0) i := by
  rw [sha_blocks]
  have := blocksL_eq (fun i => (pad m).getD i 0) ((pad m).length / 64)
  rw [h] at this
  unfold outOf
  rw [this]
  have h4 : i / 4 < 8 := by omega
  show _ = BitVec.setWidth 8 ((List.map (blocks (fun i => (pad m).getD i 0) ((pad m).length / 64)) (List.range 8)).getD (i / 4) 0 >>> (24 - 8 * (i % 4)))
  rw [List.getD_eq_getElem?_getD, List.getElem?_map, List.getElem?_range h4]
  rfl

theorem abc_blocks : blocksL (fun i => (pad [97, 98, 99]).getD i 0) ((pad [97, 98, 99]).length / 64) = [0xba7816bf, 0x8f01cfea, 0x414140de, 0x5dae2223, 0xb00361a3, 0x96177a9c, 0xb410ff61, 0xf20015ad] := by decide +kernel
theorem zx_blocks : (blocksL (fun i => (pad [0, 120]).getD i 0) ((pad [0, 120]).length / 64)).getD 0 0 ≠ 0 := by decide +kernel

end Go.Proofs.Ytnnllficjljjkaa
