/-
  How many bits of a word are set: as a plain function, and the walk of OnesCount64.
-/
import Derived.Test.YtdcndfcdjlpecaaLaws
import Derived.Test.YtdcndfcdjlpecaaRows
namespace Go.Proofs.Ytdcndfcdjlpecaa
open Go.RowKit
set_option linter.unusedVariables false
set_option linter.unusedSimpArgs false

/-- How many of the first n are there. -/
def cntB (b : Nat → Bool) : Nat → Nat
  | 0 => 0
  | n + 1 => cntB b n + (b n).toNat
theorem cntB_add (b : Nat → Bool) (n : Nat) : ∀ m, cntB b (n + m) = cntB b n + cntB (fun i => b (n + i)) m
  | 0 => rfl
  | m + 1 => by rw [← Nat.add_assoc]; simp only [cntB]; rw [cntB_add b n m]; omega
theorem cntB_congr {b c : Nat → Bool} : ∀ n, (∀ i, i < n → b i = c i) → cntB b n = cntB c n
  | 0, _ => rfl
  | n + 1, h => by simp only [cntB]; rw [cntB_congr n (fun i hi => h i (by omega)), h n (by omega)]
theorem cntB_le (b : Nat → Bool) : ∀ n, cntB b n ≤ n
  | 0 => Nat.le_refl _
  | n + 1 => by have := cntB_le b n; simp only [cntB]; cases b n <;> simp <;> omega

/-! ### bytes of a number -/
def dig (F : Nat → Nat) : Nat → Nat → Nat
  | 0, _ => 0
  | k + 1, n => F (n % 256) + 256 * dig F k (n / 256)
def msk (c : Nat) : Nat → Nat
  | 0 => 0
  | k + 1 => c + 256 * msk c k
def sumd (F : Nat → Nat) : Nat → Nat → Nat
  | 0, _ => 0
  | k + 1, n => F (n % 256) + sumd F k (n / 256)
theorem and_dig (n m : Nat) : n &&& m = (n % 256 &&& m % 256) + 256 * (n / 256 &&& m / 256) := by
  have h1 : (n &&& m) % 2 ^ 8 = n % 2 ^ 8 &&& m % 2 ^ 8 := Nat.and_mod_two_pow
  have h2 : (n &&& m) / 2 ^ 8 = n / 2 ^ 8 &&& m / 2 ^ 8 := Nat.and_div_two_pow
  have := Nat.mod_add_div (n &&& m) (2 ^ 8)
  rw [h1, h2] at this
  exact this.symm
theorem msk_mod {c : Nat} (hc : c < 256) (k : Nat) : msk c (k + 1) % 256 = c ∧ msk c (k + 1) / 256 = msk c k := by
  simp only [msk]; omega
theorem dig_comp (F G : Nat → Nat) (hF : ∀ v, v < 256 → F v < 256) : ∀ k n, dig G k (dig F k n) = dig (fun v => G (F v)) k n
  | 0, _ => rfl
  | k + 1, n => by
    have := hF (n % 256) (by omega)
    simp only [dig]
    rw [show (F (n % 256) + 256 * dig F k (n / 256)) % 256 = F (n % 256) by omega, show (F (n % 256) + 256 * dig F k (n / 256)) / 256 = dig F k (n / 256) by omega, dig_comp F G hF k]
def F1 (v : Nat) : Nat := (v / 2 &&& 85) + (v &&& 85)
def F2 (v : Nat) : Nat := (v / 4 &&& 51) + (v &&& 51)
theorem t1 : ∀ u, u < 512 → (u / 2) % 256 &&& 85 = (u % 256) / 2 &&& 85 := by decide +kernel
theorem t2 : ∀ u, u < 1024 → (u / 4) % 256 &&& 51 = (u % 256) / 4 &&& 51 := by decide +kernel
theorem step1 : ∀ k n, (n / 2 &&& msk 85 k) + (n &&& msk 85 k) = dig F1 k n
  | 0, n => by simp [msk, dig]
  | k + 1, n => by
    obtain ⟨h1, h2⟩ := msk_mod (c := 85) (by decide) k
    have e := t1 (n % 512) (by omega)
    rw [show n % 512 % 256 = n % 256 by omega, show n % 512 / 2 % 256 = n / 2 % 256 by omega] at e
    have ih := step1 k (n / 256)
    rw [and_dig (n / 2), and_dig n, h1, h2, e, show n / 2 / 256 = n / 256 / 2 by omega]
    simp only [dig, F1]
    omega
theorem step2 : ∀ k n, (n / 4 &&& msk 51 k) + (n &&& msk 51 k) = dig F2 k n
  | 0, n => by simp [msk, dig]
  | k + 1, n => by
    obtain ⟨h1, h2⟩ := msk_mod (c := 51) (by decide) k
    have e := t2 (n % 1024) (by omega)
    rw [show n % 1024 % 256 = n % 256 by omega, show n % 1024 / 4 % 256 = n / 4 % 256 by omega] at e
    have ih := step2 k (n / 256)
    rw [and_dig (n / 4), and_dig n, h1, h2, e, show n / 4 / 256 = n / 256 / 4 by omega]
    simp only [dig, F2]
    omega
theorem F1_lt : ∀ v, v < 256 → F1 v < 256 := by decide +kernel
theorem F21_le : ∀ v, v < 256 → F2 (F1 v) ≤ 68 ∧ F2 (F1 v) % 16 ≤ 4 := by decide +kernel
def T3 (v : Nat) : Nat := (F2 (F1 v) / 16 + F2 (F1 v)) % 16
theorem dig_low (k n : Nat) : dig (fun v => F2 (F1 v)) k n % 16 ≤ 4 := by
  cases k with
  | zero => simp [dig]
  | succ k => have := (F21_le (n % 256) (by omega)).2; simp only [dig]; omega
theorem step3 : ∀ k n, (dig (fun v => F2 (F1 v)) k n / 16 + dig (fun v => F2 (F1 v)) k n &&& msk 15 k) = dig T3 k n
  | 0, n => by simp [msk, dig]
  | k + 1, n => by
    obtain ⟨h1, h2⟩ := msk_mod (c := 15) (by decide) k
    have ih := step3 k (n / 256)
    have hl := dig_low k (n / 256)
    have hF := F21_le (n % 256) (by omega)
    simp only [dig]
    generalize hy : dig (fun v => F2 (F1 v)) k (n / 256) = y at *
    have e0 : T3 (n % 256) = (F2 (F1 (n % 256)) / 16 + F2 (F1 (n % 256))) % 16 := rfl
    rw [e0]
    generalize F2 (F1 (n % 256)) = f at *
    have e1 : ((f + 256 * y) / 16 + (f + 256 * y)) % 256 = f / 16 + f + 16 * (y % 16) := by omega
    have e2 : ((f + 256 * y) / 16 + (f + 256 * y)) / 256 = y / 16 + y := by omega
    have e3 : (f / 16 + f + 16 * (y % 16)) &&& 15 = (f / 16 + f + 16 * (y % 16)) % 16 := Nat.and_two_pow_sub_one_eq_mod _ 4
    rw [and_dig, h1, h2, e1, e2, e3, ih]
    omega
theorem T3_cnt : ∀ v, v < 256 → T3 v = cntB v.testBit 8 := by decide +kernel
theorem cnt_sum : ∀ k n, cntB n.testBit (8 * k) = sumd T3 k n
  | 0, _ => rfl
  | k + 1, n => by
    rw [show 8 * (k + 1) = 8 + 8 * k by omega, cntB_add]
    simp only [sumd]
    rw [T3_cnt _ (by omega), ← cnt_sum k (n / 256)]
    congr 1
    · refine cntB_congr 8 fun i hi => ?_
      rw [show n % 256 = n % 2 ^ 8 from rfl, Nat.testBit_mod_two_pow]; simp [hi]
    · refine cntB_congr _ fun i _ => ?_
      rw [show n / 256 = n / 2 ^ 8 from rfl, Nat.testBit_div_two_pow]; congr 1; omega
theorem div2 (y d0 d1 R : Nat) (h0 : d0 < 256) (h1 : d1 < 256) (h : y = d0 + 256 * (d1 + 256 * R)) : y / 65536 = R := by omega
theorem div4 (y d0 d1 d2 d3 R : Nat) (h0 : d0 < 256) (h1 : d1 < 256) (h2 : d2 < 256) (h3 : d3 < 256) (h : y = d0 + 256 * (d1 + 256 * (d2 + 256 * (d3 + 256 * R)))) : y / 4294967296 = R := by omega
theorem steps (n : Nat) : ∃ y3 y4 y5 y6, y3 = dig T3 8 n ∧ y4 = y3 + y3 / 256 ∧ y5 = y4 + y4 / 65536 ∧ y6 = y5 + y5 / 4294967296 ∧ y4 < 9223372036854775808 ∧ y5 < 9223372036854775808 ∧ y6 < 9223372036854775808 ∧ y6 % 128 = sumd T3 8 n := by
  refine ⟨_, _, _, _, rfl, rfl, rfl, rfl, ?_⟩
  simp only [dig, sumd]
  have b : ∀ m, T3 (m % 256) ≤ 8 := fun m => by rw [T3_cnt _ (by omega)]; exact cntB_le _ _
  have b0 := b n
  have b1 := b (n / 256)
  have b2 := b (n / 256 / 256)
  have b3 := b (n / 256 / 256 / 256)
  have b4 := b (n / 256 / 256 / 256 / 256)
  have b5 := b (n / 256 / 256 / 256 / 256 / 256)
  have b6 := b (n / 256 / 256 / 256 / 256 / 256 / 256)
  have b7 := b (n / 256 / 256 / 256 / 256 / 256 / 256 / 256)
  generalize T3 (n % 256) = a0 at *
  generalize T3 (n / 256 % 256) = a1 at *
  generalize T3 (n / 256 / 256 % 256) = a2 at *
  generalize T3 (n / 256 / 256 / 256 % 256) = a3 at *
  generalize T3 (n / 256 / 256 / 256 / 256 % 256) = a4 at *
  generalize T3 (n / 256 / 256 / 256 / 256 / 256 % 256) = a5 at *
  generalize T3 (n / 256 / 256 / 256 / 256 / 256 / 256 % 256) = a6 at *
  generalize T3 (n / 256 / 256 / 256 / 256 / 256 / 256 / 256 % 256) = a7 at *
  refine (fun (h : ∀ x, x = a0 + 256 * (a1 + 256 * (a2 + 256 * (a3 + 256 * (a4 + 256 * (a5 + 256 * (a6 + 256 * (a7 + 256 * 0))))))) → (x + x / 256 < 9223372036854775808 ∧ x + x / 256 + (x + x / 256) / 65536 < 9223372036854775808 ∧ x + x / 256 + (x + x / 256) / 65536 + (x + x / 256 + (x + x / 256) / 65536) / 4294967296 < 9223372036854775808 ∧ (x + x / 256 + (x + x / 256) / 65536 + (x + x / 256 + (x + x / 256) / 65536) / 4294967296) % 128 = a0 + (a1 + (a2 + (a3 + (a4 + (a5 + (a6 + (a7 + 0))))))))) => h _ rfl) ?_
  intro x hx
  have e4 : x / 256 = a1 + 256 * (a2 + 256 * (a3 + 256 * (a4 + 256 * (a5 + 256 * (a6 + 256 * a7))))) := by omega
  obtain ⟨y, hy⟩ : ∃ y, y = x + x / 256 := ⟨_, rfl⟩
  rw [← hy]
  have hy2 : y = (a0 + a1) + 256 * ((a1 + a2) + 256 * ((a2 + a3) + 256 * ((a3 + a4) + 256 * ((a4 + a5) + 256 * ((a5 + a6) + 256 * ((a6 + a7) + 256 * a7)))))) := by omega
  clear hx e4 hy
  have e5 : y / 65536 = (a2 + a3) + 256 * ((a3 + a4) + 256 * ((a4 + a5) + 256 * ((a5 + a6) + 256 * ((a6 + a7) + 256 * a7)))) := div2 _ _ _ _ (by omega) (by omega) hy2
  have hyb : y < 9223372036854775808 := by omega
  refine ⟨hyb, ?_⟩
  obtain ⟨z, hz⟩ : ∃ z, z = y + y / 65536 := ⟨_, rfl⟩
  rw [← hz]
  have hz2 : z = (a0 + a1 + a2 + a3) + 256 * ((a1 + a2 + a3 + a4) + 256 * ((a2 + a3 + a4 + a5) + 256 * ((a3 + a4 + a5 + a6) + 256 * ((a4 + a5 + a6 + a7) + 256 * ((a5 + a6 + a7) + 256 * ((a6 + a7) + 256 * a7)))))) := by omega
  clear hy2 e5 hz
  have e6 : z / 4294967296 = (a4 + a5 + a6 + a7) + 256 * ((a5 + a6 + a7) + 256 * ((a6 + a7) + 256 * a7)) := div4 _ _ _ _ _ _ (by omega) (by omega) (by omega) (by omega) hz2
  refine ⟨by omega, ?_⟩
  rw [e6, hz2]
  omega

/-! ### words -/
/-- How many bits of a word are set. -/
def pop (x : BitVec 64) : Nat := cntB x.toNat.testBit 64
theorem pop_zero : pop 0 = 0 := by decide

theorem u64_and_nat (a b : Nat) (ha : a < 18446744073709551616) (hb : b < 18446744073709551616) : bits .and .u64 (a : Int) (b : Int) = ((a &&& b : Nat) : Int) := by
  have hx : a &&& b < 2 ^ 64 := Nat.and_lt_two_pow _ (by omega)
  show IntKind.u64.wrap ((BitVec.ofInt 64 (a : Int) &&& BitVec.ofInt 64 (b : Int)).toNat : Int) = _
  rw [BitVec.toNat_and, ofInt_u64 a (by omega), ofInt_u64 b (by omega), IntKind.wrap_u64]
  omega
theorem wrap_nat (n : Nat) (h : n < 18446744073709551616) : IntKind.u64.wrap (n : Int) = (n : Int) := by rw [IntKind.wrap_u64]; omega
theorem F21_lt : ∀ v, v < 256 → F2 (F1 v) < 256 := fun v h => by have := (F21_le v h).1; omega
theorem dig_lt (F : Nat → Nat) (h : ∀ v, v < 256 → F v < 256) : ∀ k n, dig F k n < 256 ^ k
  | 0, _ => by simp [dig]
  | k + 1, n => by have := dig_lt F h k (n / 256); have := h (n % 256) (by omega); simp only [dig, Nat.pow_succ]; omega
theorem E1 (n : Nat) (hn : n < 18446744073709551616) : IntKind.u64.wrap (bits .and .u64 ((n : Int) / 2) 6148914691236517205 + bits .and .u64 (n : Int) 6148914691236517205) = ((dig F1 8 n : Nat) : Int) := by
  have h := step1 8 n
  have hb := dig_lt F1 F1_lt 8 n
  rw [show msk 85 8 = 6148914691236517205 from rfl] at h
  rw [show ((n : Int) / 2) = ((n / 2 : Nat) : Int) by omega, show (6148914691236517205 : Int) = ((6148914691236517205 : Nat) : Int) from rfl, u64_and_nat _ _ (by omega) (by omega), u64_and_nat _ _ hn (by omega), ← Int.natCast_add, h]
  exact wrap_nat _ (by simpa using hb)
theorem E2 (n : Nat) (hn : n < 18446744073709551616) : IntKind.u64.wrap (bits .and .u64 ((n : Int) / 4) 3689348814741910323 + bits .and .u64 (n : Int) 3689348814741910323) = ((dig F2 8 n : Nat) : Int) := by
  have h := step2 8 n
  have hb := dig_lt F2 (by decide +kernel) 8 n
  rw [show msk 51 8 = 3689348814741910323 from rfl] at h
  rw [show ((n : Int) / 4) = ((n / 4 : Nat) : Int) by omega, show (3689348814741910323 : Int) = ((3689348814741910323 : Nat) : Int) from rfl, u64_and_nat _ _ (by omega) (by omega), u64_and_nat _ _ hn (by omega), ← Int.natCast_add, h]
  exact wrap_nat _ (by simpa using hb)
theorem dig_top (k n : Nat) : 255 * dig (fun v => F2 (F1 v)) k n + 68 ≤ 68 * 256 ^ k := by
  induction k generalizing n with
  | zero => simp [dig]
  | succ k ih => have := ih (n / 256); have := (F21_le (n % 256) (by omega)).1; simp only [dig, Nat.pow_succ]; omega
theorem E3 (n : Nat) (h : (n / 16 + n) < 18446744073709551616) : bits .and .u64 (IntKind.u64.wrap ((n : Int) / 16 + (n : Int))) 1085102592571150095 = ((n / 16 + n &&& msk 15 8 : Nat) : Int) := by
  rw [show ((n : Int) / 16 + (n : Int)) = ((n / 16 + n : Nat) : Int) by omega, wrap_nat _ h, show (1085102592571150095 : Int) = ((msk 15 8 : Nat) : Int) from rfl, u64_and_nat _ _ h (by decide)]
theorem E4 (n : Nat) (h : n + n / 256 < 9223372036854775808) : IntKind.u64.wrap ((n : Int) + (n : Int) / 256) = ((n + n / 256 : Nat) : Int) := by
  rw [show ((n : Int) + (n : Int) / 256) = ((n + n / 256 : Nat) : Int) by omega, wrap_nat _ (by omega)]
theorem E5 (n : Nat) (h : n + n / 65536 < 9223372036854775808) : IntKind.u64.wrap ((n : Int) + (n : Int) / 65536) = ((n + n / 65536 : Nat) : Int) := by
  rw [show ((n : Int) + (n : Int) / 65536) = ((n + n / 65536 : Nat) : Int) by omega, wrap_nat _ (by omega)]
theorem E6 (n : Nat) (h : n + n / 4294967296 < 9223372036854775808) : IntKind.u64.wrap ((n : Int) + (n : Int) / 4294967296) = ((n + n / 4294967296 : Nat) : Int) := by
  rw [show ((n : Int) + (n : Int) / 4294967296) = ((n + n / 4294967296 : Nat) : Int) by omega, wrap_nat _ (by omega)]
theorem E7 (n : Nat) (h : n < 9223372036854775808) : bits .and .i64 (wrap64 (n : Int)) 127 = ((n % 128 : Nat) : Int) := by
  have hw : wrap64 (n : Int) = (n : Int) := by unfold wrap64; omega
  rw [hw, show (127 : Int) = ((127 : Nat) : Int) from rfl, i64_and_nat _ _ h (by decide)]
  congr 1
  exact Nat.and_two_pow_sub_one_eq_mod n 7

set_option maxRecDepth 100000 in
set_option maxHeartbeats 1000000 in
theorem ones_any (x : BitVec 64) (w : World) : Calls Try.prog 36 #[.int .u64 (Q x)] w fun e w' => e = .returned (.int .i64 (pop x : Int)) ∧ w = w' := by
  go_enter Try.func36, Try.ntmps36
  go_wp2
  have hn : x.toNat < 18446744073709551616 := x.isLt
  obtain ⟨y3, y4, y5, y6, h3, h4, h5, h6, b4, b5, b6, hs⟩ := steps x.toNat
  have hq : Q x = ((x.toNat : Nat) : Int) := rfl
  have hp : pop x = sumd T3 8 x.toNat := cnt_sum 8 x.toNat
  have hd1 := dig_lt F1 F1_lt 8 x.toNat
  have hd3 := dig_comp F1 F2 F1_lt 8 x.toNat
  have hd2 := dig_lt (fun v => F2 (F1 v)) F21_lt 8 x.toNat
  have ht := step3 8 x.toNat
  have hv : dig (fun v => F2 (F1 v)) 8 x.toNat / 16 + dig (fun v => F2 (F1 v)) 8 x.toNat < 18446744073709551616 := by
    have := dig_top 8 x.toNat
    simp only [Nat.reducePow] at this
    omega
  rw [hq, E1 _ hn, E2 _ (by simpa using hd1), hd3, E3 _ hv, ht, ← h3, E4 _ (by rw [← h4]; exact b4), ← h4, E5 _ (by rw [← h5]; exact b5), ← h5, E6 _ (by rw [← h6]; exact b6), ← h6, E7 _ b6, hs, ← hp]
  go_ret
  exact ⟨rfl, rfl⟩

end Go.Proofs.Ytdcndfcdjlpecaa
