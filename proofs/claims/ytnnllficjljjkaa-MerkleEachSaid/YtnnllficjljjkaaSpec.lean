/-
  The hash of the document as plain functions on words of 32 bits: the schedule, the rounds, a block, a state that takes bytes in. No program in sight.
-/
import Derived.Test.YtnnllficjljjkaaBits
namespace Go.Proofs.Ytnnllficjljjkaa

/-- A word turned to the left. -/
def rotl (x : BitVec 32) (n : Nat) : BitVec 32 := x <<< n ||| x >>> (32 - n)
def wide (x : BitVec 8) : BitVec 32 := x.setWidth 32
def sig0 (x : BitVec 32) : BitVec 32 := rotl x 25 ^^^ rotl x 14 ^^^ x >>> 3
def sig1 (x : BitVec 32) : BitVec 32 := rotl x 15 ^^^ rotl x 13 ^^^ x >>> 10
def Sig1 (x : BitVec 32) : BitVec 32 := rotl x 26 ^^^ rotl x 21 ^^^ rotl x 7
def Sig0 (x : BitVec 32) : BitVec 32 := rotl x 30 ^^^ rotl x 19 ^^^ rotl x 10

open Go.RowKit in
theorem sig0_val (x : BitVec 32) : bits .xor .u32 (bits .xor .u32 (U (rotl x 25)) (U (rotl x 14))) (U x / (8 : Int)) = U (sig0 x) := by
  rw [U_shr3, U_xor, U_xor]; rfl
open Go.RowKit in
theorem sig1_val (x : BitVec 32) : bits .xor .u32 (bits .xor .u32 (U (rotl x 15)) (U (rotl x 13))) (U x / (1024 : Int)) = U (sig1 x) := by
  rw [U_shr10, U_xor, U_xor]; rfl

/-- The rounds' numbers, and the eight words of the beginning. -/
def K256 (i : Nat) : BitVec 32 := BitVec.ofNat 32 ([1116352408, 1899447441, 3049323471, 3921009573, 961987163, 1508970993, 2453635748, 2870763221, 3624381080, 310598401, 607225278, 1426881987, 1925078388, 2162078206, 2614888103, 3248222580, 3835390401, 4022224774, 264347078, 604807628, 770255983, 1249150122, 1555081692, 1996064986, 2554220882, 2821834349, 2952996808, 3210313671, 3336571891, 3584528711, 113926993, 338241895, 666307205, 773529912, 1294757372, 1396182291, 1695183700, 1986661051, 2177026350, 2456956037, 2730485921, 2820302411, 3259730800, 3345764771, 3516065817, 3600352804, 4094571909, 275423344, 430227734, 506948616, 659060556, 883997877, 958139571, 1322822218, 1537002063, 1747873779, 1955562222, 2024104815, 2227730452, 2361852424, 2428436474, 2756734187, 3204031479, 3329325298].getD i 0)
def H256 (i : Nat) : BitVec 32 := BitVec.ofNat 32 ([1779033703, 3144134277, 1013904242, 2773480762, 1359893119, 2600822924, 528734635, 1541459225].getD i 0)

/-- The first sixteen words of a block, byte by byte. -/
def sch1 (b : Nat → BitVec 8) : Nat → Nat → BitVec 32
  | 0 => fun _ => 0
  | k + 1 => upd (sch1 b k) (k / 4) (sch1 b k (k / 4) <<< 8 ||| wide (b k))
def schStep (f : Nat → BitVec 32) (k : Nat) : BitVec 32 := sig1 (f (k - 2)) + f (k - 7) + sig0 (f (k - 15)) + f (k - 16)
/-- The further words, from the sixteenth on. -/
def sch2 (W : Nat → BitVec 32) : Nat → Nat → BitVec 32
  | 0 => W
  | k + 1 => if k < 16 then W else upd (sch2 W k) k (schStep (sch2 W k) k)
def sched (b : Nat → BitVec 8) : Nat → BitVec 32 := sch2 (sch1 b 64) 64

theorem sch2_low (W : Nat → BitVec 32) : ∀ k, k ≤ 16 → sch2 W k = W
  | 0, _ => rfl
  | k + 1, h => by unfold sch2; rw [if_pos (by omega)]
theorem sch2_step (W : Nat → BitVec 32) {k : Nat} (h : 16 ≤ k) : sch2 W (k + 1) = upd (sch2 W k) k (schStep (sch2 W k) k) := by
  rw [sch2, if_neg (by omega)]

/-! ### the rounds -/
def rndX (K W : Nat → BitVec 32) (t : Nat) (v : Nat → BitVec 32) : BitVec 32 := v 7 + Sig1 (v 4) + (v 4 &&& v 5 ^^^ ~~~(v 4) &&& v 6) + K t + W t
def rndY (v : Nat → BitVec 32) : BitVec 32 := Sig0 (v 0) + (v 0 &&& v 1 ^^^ v 0 &&& v 2 ^^^ v 1 &&& v 2)
def rnd (K W : Nat → BitVec 32) (t : Nat) (v : Nat → BitVec 32) : Nat → BitVec 32
  | 0 => rndX K W t v + rndY v
  | 1 => v 0
  | 2 => v 1
  | 3 => v 2
  | 4 => v 3 + rndX K W t v
  | 5 => v 4
  | 6 => v 5
  | 7 => v 6
  | _ => 0
def rnds (K W : Nat → BitVec 32) (h : Nat → BitVec 32) : Nat → Nat → BitVec 32
  | 0 => h
  | t + 1 => rnd K W t (rnds K W h t)
/-- What a block makes of the eight words. -/
def block (K : Nat → BitVec 32) (h : Nat → BitVec 32) (b : Nat → BitVec 8) : Nat → BitVec 32 := fun i => h i + rnds K (sched b) h 64 i

end Go.Proofs.Ytnnllficjljjkaa
