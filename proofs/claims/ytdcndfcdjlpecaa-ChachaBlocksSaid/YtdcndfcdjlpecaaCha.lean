/-
  ChaCha20 as plain functions: a quarter of a round, double rounds, a block, bytes turned by the stream; a block reckoned by the kernel. No program in sight.
-/
import Derived.Test.YtdcndfcdjlpecaaBits
import Derived.Test.YtdcndfcdjlpecaaSpec
namespace Go.Proofs.Ytdcndfcdjlpecaa
set_option linter.unusedSimpArgs false

/-! ### the four words of a quarter -/
def qa (a b c d : BitVec 32) : BitVec 32 :=
  a + b + rotl (b ^^^ (c + rotl (d ^^^ (a + b)) 16)) 12
def qd (a b c d : BitVec 32) : BitVec 32 := rotl (rotl (d ^^^ (a + b)) 16 ^^^ qa a b c d) 8
def qc (a b c d : BitVec 32) : BitVec 32 := c + rotl (d ^^^ (a + b)) 16 + qd a b c d
def qb (a b c d : BitVec 32) : BitVec 32 := rotl (rotl (b ^^^ (c + rotl (d ^^^ (a + b)) 16)) 12 ^^^ qc a b c d) 7

/-- A quarter of a round, step by step. -/
def q1 (a b : Nat) (s : Nat → BitVec 32) : Nat → BitVec 32 := upd s a (s a + s b)
def q2 (a d n : Nat) (s : Nat → BitVec 32) : Nat → BitVec 32 := upd s d (rotl (s d ^^^ s a) n)
def qr (a b c d : Nat) (s : Nat → BitVec 32) : Nat → BitVec 32 :=
  q2 c b 7 (q1 c d (q2 a d 8 (q1 a b (q2 c b 12 (q1 c d (q2 a d 16 (q1 a b s)))))))

theorem qr_eq (a b c d : Nat) (s : Nat → BitVec 32) (h1 : a ≠ b) (h2 : a ≠ c) (h3 : a ≠ d) (h4 : b ≠ c) (h5 : b ≠ d) (h6 : c ≠ d) :
    qr a b c d s = fun j => if j = a then qa (s a) (s b) (s c) (s d) else if j = b then qb (s a) (s b) (s c) (s d) else if j = c then qc (s a) (s b) (s c) (s d) else if j = d then qd (s a) (s b) (s c) (s d) else s j := by
  funext j
  unfold qr q1 q2 upd
  by_cases ha : j = a
  · subst ha
    simp [h1, h2, h3, h4, h5, h6, h1.symm, h2.symm, h3.symm, h4.symm, h5.symm, h6.symm, qa]
  · by_cases hb : j = b
    · subst hb
      simp [h1, h2, h3, h4, h5, h6, h1.symm, h2.symm, h3.symm, h4.symm, h5.symm, h6.symm, qa, qb, qc, qd]
    · by_cases hc : j = c
      · subst hc
        simp [h1, h2, h3, h4, h5, h6, h1.symm, h2.symm, h3.symm, h4.symm, h5.symm, h6.symm, qa, qc, qd]
      · by_cases hd : j = d
        · subst hd
          simp [h1, h2, h3, h4, h5, h6, h1.symm, h2.symm, h3.symm, h4.symm, h5.symm, h6.symm, qa, qd]
        · simp [ha, hb, hc, hd]

/-- The columns, the diagonals, the first k of them. -/
def cols (s : Nat → BitVec 32) : Nat → Nat → BitVec 32
  | 0 => s
  | k + 1 => qr k (4 + k) (8 + k) (12 + k) (cols s k)
def dias (s : Nat → BitVec 32) : Nat → Nat → BitVec 32
  | 0 => s
  | k + 1 => qr k (4 + (k + 1) % 4) (8 + (k + 2) % 4) (12 + (k + 3) % 4) (dias s k)
def dbl (s : Nat → BitVec 32) : Nat → BitVec 32 := dias (cols s 4) 4
def dbls (s : Nat → BitVec 32) : Nat → Nat → BitVec 32
  | 0 => s
  | k + 1 => dbl (dbls s k)
theorem dbl_eq (s : Nat → BitVec 32) : dbl s = qr 3 4 9 14 (qr 2 7 8 13 (qr 1 6 11 12 (qr 0 5 10 15 (qr 3 7 11 15 (qr 2 6 10 14 (qr 1 5 9 13 (qr 0 4 8 12 s))))))) := rfl

/-- Four bytes, the lowest first. -/
def le4 (b : Nat → BitVec 8) (i : Nat) : BitVec 32 := wide (b i) ||| wide (b (i + 1)) <<< 8 ||| wide (b (i + 2)) <<< 16 ||| wide (b (i + 3)) <<< 24
def sigma (i : Nat) : BitVec 32 := BitVec.ofNat 32 ([0x61707865, 0x3320646e, 0x79622d32, 0x6b206574].getD i 0)
def begS (key : Nat → BitVec 8) (c : BitVec 32) (nonce : Nat → BitVec 8) : Nat → BitVec 32 := fun i =>
  if i < 4 then sigma i else if i < 12 then le4 key (4 * (i - 4)) else if i = 12 then c else le4 nonce (4 * (i - 13))
def outC (v s : Nat → BitVec 32) : Nat → BitVec 8 := fun i => ((v (i / 4) + s (i / 4)) >>> (8 * (i % 4))).setWidth 8
def blockC (key : Nat → BitVec 8) (c : BitVec 32) (nonce : Nat → BitVec 8) : Nat → BitVec 8 := outC (dbls (begS key c nonce) 10) (begS key c nonce)
/-- The stream's byte i. -/
def strm (key : Nat → BitVec 8) (c : BitVec 32) (nonce : Nat → BitVec 8) (i : Nat) : BitVec 8 := blockC key (c + BitVec.ofNat 32 (i / 64)) nonce (i % 64)
def turnC (key : Nat → BitVec 8) (c : BitVec 32) (nonce : Nat → BitVec 8) (l : List (BitVec 8)) : List (BitVec 8) := l.mapIdx fun i x => x ^^^ strm key c nonce i
theorem turnC_length (key : Nat → BitVec 8) (c : BitVec 32) (nonce : Nat → BitVec 8) (l : List (BitVec 8)) : (turnC key c nonce l).length = l.length := by simp [turnC]
theorem turnC_twice (key : Nat → BitVec 8) (c : BitVec 32) (nonce : Nat → BitVec 8) (l : List (BitVec 8)) : turnC key c nonce (turnC key c nonce l) = l := by
  apply List.ext_getElem?
  intro i
  simp only [turnC, List.getElem?_mapIdx, Option.map_map]
  cases l[i]? with
  | none => rfl
  | some x => simp [BitVec.xor_assoc]
theorem turnC_get (key : Nat → BitVec 8) (c : BitVec 32) (nonce : Nat → BitVec 8) (l : List (BitVec 8)) (i : Nat) (h : i < l.length) : (turnC key c nonce l)[i]'(by rw [turnC_length]; exact h) = l[i] ^^^ strm key c nonce i := by
  simp [turnC]

/-! ### the counter -/
theorem U_ofInt (n : Int) : U (BitVec.ofInt 32 n) = n % 4294967296 := by
  unfold U
  rw [BitVec.toNat_ofInt]
  omega
theorem U_ofInt' (n : Int) : IntKind.u32.wrap n = U (BitVec.ofInt 32 n) := by rw [U_ofInt, IntKind.wrap_u32']
theorem ofInt_U (x : BitVec 32) : BitVec.ofInt 32 (U x) = x := U_inj (by rw [U_ofInt]; have := U_bd x; omega)
theorem ofInt_add (n : Int) (k : Nat) : BitVec.ofInt 32 (n + k) = BitVec.ofInt 32 n + BitVec.ofNat 32 k := by
  apply U_inj
  rw [U_ofInt, ← U_add', U_ofInt]
  unfold U
  rw [BitVec.toNat_ofNat]
  omega
theorem ofInt_mod (n m : Int) (h : n % 4294967296 = m % 4294967296) : BitVec.ofInt 32 n = BitVec.ofInt 32 m := U_inj (by rw [U_ofInt, U_ofInt, h])

/-! ### reckoned by the kernel -/
def forceM {α : Type} (n : Nat) (k : Nat → α) : α := match n with | 0 => k 0 | m + 1 => k (m + 1)
theorem forceM_eq {α : Type} (n : Nat) (k : Nat → α) : forceM n k = k n := by cases n <;> rfl
def forceW {α : Type} (x : BitVec 32) (k : BitVec 32 → α) : α := forceM x.toNat fun n => k (BitVec.ofNat 32 n)
theorem forceW_eq {α : Type} (x : BitVec 32) (k : BitVec 32 → α) : forceW x k = k x := by
  unfold forceW; rw [forceM_eq, BitVec.ofNat_toNat, BitVec.setWidth_eq]
def qF {α : Type} (a b c d : BitVec 32) (k : BitVec 32 → BitVec 32 → BitVec 32 → BitVec 32 → α) : α :=
  forceW (a + b) fun a => forceW (rotl (d ^^^ a) 16) fun d => forceW (c + d) fun c => forceW (rotl (b ^^^ c) 12) fun b =>
  forceW (a + b) fun a => forceW (rotl (d ^^^ a) 8) fun d => forceW (c + d) fun c => forceW (rotl (b ^^^ c) 7) fun b => k a b c d
theorem qF_eq {α : Type} (a b c d : BitVec 32) (k : BitVec 32 → BitVec 32 → BitVec 32 → BitVec 32 → α) : qF a b c d k = k (qa a b c d) (qb a b c d) (qc a b c d) (qd a b c d) := by
  unfold qF
  simp only [forceW_eq]
  rfl
def dblF : Nat → BitVec 32 → BitVec 32 → BitVec 32 → BitVec 32 → BitVec 32 → BitVec 32 → BitVec 32 → BitVec 32 → BitVec 32 → BitVec 32 → BitVec 32 → BitVec 32 → BitVec 32 → BitVec 32 → BitVec 32 → BitVec 32 → List (BitVec 32)
  | 0, s0, s1, s2, s3, s4, s5, s6, s7, s8, s9, s10, s11, s12, s13, s14, s15 => [s0, s1, s2, s3, s4, s5, s6, s7, s8, s9, s10, s11, s12, s13, s14, s15]
  | n + 1, s0, s1, s2, s3, s4, s5, s6, s7, s8, s9, s10, s11, s12, s13, s14, s15 =>
    qF s0 s4 s8 s12 fun s0 s4 s8 s12 => qF s1 s5 s9 s13 fun s1 s5 s9 s13 => qF s2 s6 s10 s14 fun s2 s6 s10 s14 => qF s3 s7 s11 s15 fun s3 s7 s11 s15 =>
    qF s0 s5 s10 s15 fun s0 s5 s10 s15 => qF s1 s6 s11 s12 fun s1 s6 s11 s12 => qF s2 s7 s8 s13 fun s2 s7 s8 s13 => qF s3 s4 s9 s14 fun s3 s4 s9 s14 =>
    dblF n s0 s1 s2 s3 s4 s5 s6 s7 s8 s9 s10 s11 s12 s13 s14 s15
def dblL (n : Nat) (s : Nat → BitVec 32) : List (BitVec 32) := dblF n (s 0) (s 1) (s 2) (s 3) (s 4) (s 5) (s 6) (s 7) (s 8) (s 9) (s 10) (s 11) (s 12) (s 13) (s 14) (s 15)
theorem dblL_step (n : Nat) (s : Nat → BitVec 32) : dblL (n + 1) s = dblL n (dbl s) := by
  rw [dbl_eq]
  unfold dblL
  rw [dblF]
  simp only [qF_eq]
  simp only [qr_eq _ _ _ _ _ (show (0 : Nat) ≠ 4 by decide) (show (0 : Nat) ≠ 8 by decide) (show (0 : Nat) ≠ 12 by decide) (show (4 : Nat) ≠ 8 by decide) (show (4 : Nat) ≠ 12 by decide) (show (8 : Nat) ≠ 12 by decide),
    qr_eq _ _ _ _ _ (show (1 : Nat) ≠ 5 by decide) (show (1 : Nat) ≠ 9 by decide) (show (1 : Nat) ≠ 13 by decide) (show (5 : Nat) ≠ 9 by decide) (show (5 : Nat) ≠ 13 by decide) (show (9 : Nat) ≠ 13 by decide),
    qr_eq _ _ _ _ _ (show (2 : Nat) ≠ 6 by decide) (show (2 : Nat) ≠ 10 by decide) (show (2 : Nat) ≠ 14 by decide) (show (6 : Nat) ≠ 10 by decide) (show (6 : Nat) ≠ 14 by decide) (show (10 : Nat) ≠ 14 by decide),
    qr_eq _ _ _ _ _ (show (3 : Nat) ≠ 7 by decide) (show (3 : Nat) ≠ 11 by decide) (show (3 : Nat) ≠ 15 by decide) (show (7 : Nat) ≠ 11 by decide) (show (7 : Nat) ≠ 15 by decide) (show (11 : Nat) ≠ 15 by decide),
    qr_eq _ _ _ _ _ (show (0 : Nat) ≠ 5 by decide) (show (0 : Nat) ≠ 10 by decide) (show (0 : Nat) ≠ 15 by decide) (show (5 : Nat) ≠ 10 by decide) (show (5 : Nat) ≠ 15 by decide) (show (10 : Nat) ≠ 15 by decide),
    qr_eq _ _ _ _ _ (show (1 : Nat) ≠ 6 by decide) (show (1 : Nat) ≠ 11 by decide) (show (1 : Nat) ≠ 12 by decide) (show (6 : Nat) ≠ 11 by decide) (show (6 : Nat) ≠ 12 by decide) (show (11 : Nat) ≠ 12 by decide),
    qr_eq _ _ _ _ _ (show (2 : Nat) ≠ 7 by decide) (show (2 : Nat) ≠ 8 by decide) (show (2 : Nat) ≠ 13 by decide) (show (7 : Nat) ≠ 8 by decide) (show (7 : Nat) ≠ 13 by decide) (show (8 : Nat) ≠ 13 by decide),
    qr_eq _ _ _ _ _ (show (3 : Nat) ≠ 4 by decide) (show (3 : Nat) ≠ 9 by decide) (show (3 : Nat) ≠ 14 by decide) (show (4 : Nat) ≠ 9 by decide) (show (4 : Nat) ≠ 14 by decide) (show (9 : Nat) ≠ 14 by decide)]
  simp only [Nat.reduceEqDiff, if_true, if_false]
theorem dblL_dbls (s : Nat → BitVec 32) : ∀ n m, dblL n (dbls s m) = (List.range 16).map (dbls s (n + m))
  | 0, m => by rw [Nat.zero_add]; rfl
  | n + 1, m => by
    rw [dblL_step, show dbl (dbls s m) = dbls s (m + 1) from rfl, dblL_dbls s n (m + 1)]
    congr 2; omega
theorem blockC_at (key : Nat → BitVec 8) (c : BitVec 32) (nonce : Nat → BitVec 8) (l : List (BitVec 32)) (h : dblL 10 (begS key c nonce) = l) {i : Nat} (hi : i < 64) :
    blockC key c nonce i = outC (fun j => l.getD j 0) (begS key c nonce) i := by
  have e : l = (List.range 16).map (dbls (begS key c nonce) 10) := h.symm.trans (dblL_dbls _ 10 0)
  subst e
  have h4 : i / 4 < 16 := by omega
  unfold blockC outC
  simp [List.getD_eq_getElem?_getD, h4]
/-- The example: a stream that turns its first byte. -/
theorem seven_turns : outC (fun j => (dblL 10 (begS (fun i => if i = 0 then 7 else 0) 1 fun _ => 0)).getD j 0) (begS (fun i => if i = 0 then 7 else 0) 1 fun _ => 0) 0 ≠ 0 := by decide +kernel

end Go.Proofs.Ytdcndfcdjlpecaa
