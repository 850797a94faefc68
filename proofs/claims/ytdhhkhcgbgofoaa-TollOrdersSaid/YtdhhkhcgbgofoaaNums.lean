/-
  Plain facts on double floats: the float of a whole number below 2^53 reads as that number; how such floats are ordered, summed, cut to whole numbers. No program in sight.
-/
import Derived.Laws.FloatArith
namespace Go.Proofs.Ytdhhkhcgbgofoaa
open Ieee

/-- The bits of the float of a whole number. -/
def F (n : Nat) : Nat := double.nearest false n 0

/-- A datum that stands for the whole number n. -/
def Val (d : Datum) (n : Nat) : Prop :=
  ∃ s m j, d = .number s m j ∧ (n ≠ 0 → s = false) ∧ ∀ base : Int, base ≤ 0 → base ≤ j → m * 2 ^ (j - base).toNat = n * 2 ^ (-base).toNat

theorem log2_mul_pow (n j : Nat) (h : n ≠ 0) : (n * 2 ^ j).log2 = n.log2 + j := by
  rw [Nat.log2_eq_iff (by have := Nat.pos_of_ne_zero h; have := Nat.pow_pos (n := j) (show 0 < 2 by omega); exact Nat.ne_of_gt (Nat.mul_pos ‹_› ‹_›))]
  have h1 := Nat.log2_self_le h
  have h2 := Nat.lt_log2_self (n := n)
  constructor
  · rw [Nat.pow_add]; exact Nat.mul_le_mul_right _ h1
  · rw [show n.log2 + j + 1 = (n.log2 + 1) + j by omega, Nat.pow_add]
    exact Nat.mul_lt_mul_of_pos_right h2 (Nat.pow_pos (by omega))

theorem cut_exact (way : Toward) (neg : Bool) (a d : Nat) (ha : a ≠ 0) : way.cut neg (a * 2 ^ d) d = a := by
  unfold Toward.cut
  have hl := log2_mul_pow a d ha
  have hm : min d ((a * 2 ^ d).log2 + 2) = d := by omega
  have hp : 0 < 2 ^ d := Nat.pow_pos (by omega)
  simp only [hm, Nat.one_shiftLeft, Nat.mul_div_cancel a hp, Nat.mul_mod_left]
  cases way <;> simp

/-- The nearest float of n * 2^j at the place -j: that of n. -/
theorem nearest_kept (n j k : Nat) (hk : n.log2 = k) (h0 : n ≠ 0) (h : n < 2 ^ 53) :
    double.nearest false (n * 2 ^ j) (-(j : Int)) = (k + 1022) * 2 ^ 52 + n * 2 ^ (52 - k) := by
  have hkl : k ≤ 52 := by
    have := (Nat.log2_lt h0).2 h
    omega
  have hne : n * 2 ^ j ≠ 0 := Nat.mul_ne_zero h0 (Nat.ne_of_gt (Nat.pow_pos (by omega)))
  have hl := log2_mul_pow n j h0
  unfold Format.nearest
  rw [if_neg hne]
  have hfb : double.fractionBits = 52 := rfl
  have hlp : double.leastPlace = -1074 := by decide
  have hbin : double.binade = 2 ^ 52 := rfl
  have hinf : double.infRung = 2047 * 2 ^ 52 := rfl
  simp only [hfb, hlp, hbin, hinf, hl, hk]
  have hlast : max (-(j : Int) + ((k + j : Nat) : Int) - ((52 : Nat) : Int)) (-1074) = (k : Int) - 52 := by omega
  rw [hlast]
  have hrung : ((k : Int) - 52 - -1074).toNat = k + 1022 := by omega
  rw [hrung]
  have hcut : Toward.even.cut false ((n * 2 ^ j) <<< (-(j : Int) - ((k : Int) - 52)).toNat) ((k : Int) - 52 - -(j : Int)).toNat = n * 2 ^ (52 - k) := by
    by_cases hj : j ≤ 52 - k
    · have e1 : (-(j : Int) - ((k : Int) - 52)).toNat = 52 - k - j := by omega
      have e2 : ((k : Int) - 52 - -(j : Int)).toNat = 0 := by omega
      rw [e1, e2, Nat.shiftLeft_eq, Nat.mul_assoc, ← Nat.pow_add, show j + (52 - k - j) = 52 - k by omega]
      have := cut_exact .even false (n * 2 ^ (52 - k)) 0 (Nat.mul_ne_zero h0 (Nat.ne_of_gt (Nat.pow_pos (by omega))))
      simpa using this
    · have e1 : (-(j : Int) - ((k : Int) - 52)).toNat = 0 := by omega
      have e2 : ((k : Int) - 52 - -(j : Int)).toNat = j - (52 - k) := by omega
      rw [e1, e2, Nat.shiftLeft_zero]
      have e3 : n * 2 ^ j = (n * 2 ^ (52 - k)) * 2 ^ (j - (52 - k)) := by
        rw [Nat.mul_assoc, ← Nat.pow_add, show (52 - k) + (j - (52 - k)) = j by omega]
      rw [e3]
      exact cut_exact .even false _ _ (Nat.mul_ne_zero h0 (Nat.ne_of_gt (Nat.pow_pos (by omega))))
  rw [hcut]
  have hlt : n * 2 ^ (52 - k) < 2 ^ 53 := by
    have := Nat.lt_log2_self (n := n)
    rw [hk] at this
    calc n * 2 ^ (52 - k) < 2 ^ (k + 1) * 2 ^ (52 - k) := Nat.mul_lt_mul_of_pos_right this (Nat.pow_pos (by omega))
      _ = 2 ^ 53 := by rw [← Nat.pow_add, show k + 1 + (52 - k) = 53 by omega]
  rw [Nat.min_eq_left (by omega)]
  rfl

theorem nearest_scale (n j : Nat) (h : n < 2 ^ 53) : double.nearest false (n * 2 ^ j) (-(j : Int)) = F n := by
  by_cases h0 : n = 0
  · subst h0; unfold F Format.nearest; simp
  · rw [nearest_kept n j _ rfl h0 h]
    have := nearest_kept n 0 _ rfl h0 h
    simp at this
    rw [F, this]

theorem read_F (n : Nat) (h : n < 2 ^ 53) : ∃ j : Nat, double.read (F n) = .number false (n * 2 ^ j) (-(j : Int)) := by
  by_cases h0 : n = 0
  · subst h0
    obtain ⟨k, hk⟩ : ∃ k : Nat, k = 1074 := ⟨_, rfl⟩
    refine ⟨k, ?_⟩
    rw [Nat.zero_mul, hk]
    decide
  · have hk := nearest_kept n 0 _ rfl h0 h
    simp only [Nat.pow_zero, Nat.mul_one, Int.natCast_zero, Int.neg_zero] at hk
    have hkl : n.log2 ≤ 52 := by
      have := (Nat.log2_lt h0).2 h
      omega
    have g1 : 2 ^ 52 ≤ n * 2 ^ (52 - n.log2) := by
      calc 2 ^ 52 = 2 ^ n.log2 * 2 ^ (52 - n.log2) := by rw [← Nat.pow_add, show n.log2 + (52 - n.log2) = 52 by omega]
        _ ≤ _ := Nat.mul_le_mul_right _ (Nat.log2_self_le h0)
    have g2 : n * 2 ^ (52 - n.log2) < 2 ^ 53 := by
      calc n * 2 ^ (52 - n.log2) < 2 ^ (n.log2 + 1) * 2 ^ (52 - n.log2) := Nat.mul_lt_mul_of_pos_right Nat.lt_log2_self (Nat.pow_pos (by omega))
        _ = 2 ^ 53 := by rw [← Nat.pow_add, show n.log2 + 1 + (52 - n.log2) = 53 by omega]
    refine ⟨52 - n.log2, ?_⟩
    rw [F, hk]
    generalize n * 2 ^ (52 - n.log2) = M at *
    generalize n.log2 = k at *
    unfold Format.read
    have hsw : double.signWeight = 2 ^ 63 := rfl
    have hlp : double.leastPlace = -1074 := by decide
    have hbin : double.binade = 2 ^ 52 := rfl
    have hinf : double.infRung = 2047 * 2 ^ 52 := rfl
    simp only [hsw, hlp, hbin, hinf]
    have a1 : ((k + 1022) * 2 ^ 52 + M) / 2 ^ 63 = 0 := by omega
    have a2 : ((k + 1022) * 2 ^ 52 + M) % 2 ^ 63 = (k + 1022) * 2 ^ 52 + M := by omega
    have a3 : ((k + 1022) * 2 ^ 52 + M) / 2 ^ 52 = k + 1023 := by omega
    have a4 : ((k + 1022) * 2 ^ 52 + M) % 2 ^ 52 = M - 2 ^ 52 := by omega
    rw [a1, a2, a3, a4, if_neg (by omega), if_pos (by omega)]
    simp only [Nat.zero_mod, Datum.number.injEq]
    refine ⟨by decide, by omega, by omega⟩


theorem val_F (n : Nat) (h : n < 2 ^ 53) : Val (double.read (F n)) n := by
  obtain ⟨j, hj⟩ := read_F n h
  refine ⟨false, _, _, hj, fun _ => rfl, fun base hb hbj => ?_⟩
  rw [Nat.mul_assoc, ← Nat.pow_add]
  congr 2
  omega

/-- One place is enough. -/
theorem val_of_base {s : Bool} {m n : Nat} {j base : Int} (hs : n ≠ 0 → s = false) (hb : base ≤ 0) (hbj : base ≤ j) (h : m * 2 ^ (j - base).toNat = n * 2 ^ (-base).toNat) :
    Val (.number s m j) n := by
  refine ⟨s, m, j, rfl, hs, fun c hc hcj => ?_⟩
  by_cases hcb : c ≤ base
  · rw [show (j - c).toNat = (j - base).toNat + (base - c).toNat by omega, show (-c).toNat = (-base).toNat + (base - c).toNat by omega, Nat.pow_add, Nat.pow_add, ← Nat.mul_assoc, ← Nat.mul_assoc, h]
  · rw [show (j - base).toNat = (j - c).toNat + (c - base).toNat by omega, show (-base).toNat = (-c).toNat + (c - base).toNat by omega, Nat.pow_add, Nat.pow_add, ← Nat.mul_assoc, ← Nat.mul_assoc] at h
    exact Nat.eq_of_mul_eq_mul_right (Nat.pow_pos (by omega)) h

theorem signed_val {s : Bool} {m n : Nat} {j base : Int} (hs : n ≠ 0 → s = false) (h : m * 2 ^ (j - base).toNat = n * 2 ^ (-base).toNat) :
    signed s m (j - base).toNat = ((n * 2 ^ (-base).toNat : Nat) : Int) := by
  unfold signed
  rw [Nat.shiftLeft_eq, h]
  by_cases h0 : n = 0
  · subst h0; cases s <;> simp
  · rw [hs h0]; rfl

/-- How two such floats are ordered, one of them a float of ours. -/
theorem order_val {x : Datum} {a b : Nat} (ha : a < 2 ^ 53) (hx : Val x b) : (double.read (F a)).order x = some (compare a b) := by
  obtain ⟨j, hj⟩ := read_F a ha
  obtain ⟨s', m', j', rfl, hs', h'⟩ := hx
  obtain ⟨s, m, i, e, hs, h⟩ := val_F a ha
  rw [hj] at e
  obtain ⟨rfl, rfl, rfl⟩ := Datum.number.inj e
  rw [hj]
  unfold Datum.order
  simp only
  have hb : min (-(j : Int)) j' ≤ 0 := by omega
  rw [signed_val hs (h _ hb (by omega)), signed_val hs' (h' _ hb (by omega))]
  have hp : 0 < 2 ^ (-(min (-(j : Int)) j')).toNat := Nat.pow_pos (by omega)
  generalize 2 ^ (-(min (-(j : Int)) j')).toNat = p at *
  congr 1
  simp only [compare, compareOfLessAndEq]
  have e1 : ((a * p : Nat) : Int) < ((b * p : Nat) : Int) ↔ a < b := by
    rw [Int.ofNat_lt]; exact Nat.mul_lt_mul_right hp
  have e2 : ((a * p : Nat) : Int) = ((b * p : Nat) : Int) ↔ a = b := by
    rw [Int.ofNat_inj]; exact Nat.mul_left_inj (Nat.ne_of_gt hp)
  simp only [e1, e2]

theorem order_val' {x : Datum} {a b : Nat} (ha : a < 2 ^ 53) (hx : Val x b) : x.order (double.read (F a)) = some (compare b a) := by
  obtain ⟨j, hj⟩ := read_F a ha
  obtain ⟨s', m', j', rfl, hs', h'⟩ := hx
  obtain ⟨s, m, i, e, hs, h⟩ := val_F a ha
  rw [hj] at e
  obtain ⟨rfl, rfl, rfl⟩ := Datum.number.inj e
  rw [hj]
  unfold Datum.order
  simp only
  have hb : min j' (-(j : Int)) ≤ 0 := by omega
  rw [signed_val hs (h _ hb (by omega)), signed_val hs' (h' _ hb (by omega))]
  have hp : 0 < 2 ^ (-(min j' (-(j : Int)))).toNat := Nat.pow_pos (by omega)
  generalize 2 ^ (-(min j' (-(j : Int)))).toNat = p at *
  congr 1
  simp only [compare, compareOfLessAndEq]
  have e1 : ((b * p : Nat) : Int) < ((a * p : Nat) : Int) ↔ b < a := by
    rw [Int.ofNat_lt]; exact Nat.mul_lt_mul_right hp
  have e2 : ((b * p : Nat) : Int) = ((a * p : Nat) : Int) ↔ b = a := by
    rw [Int.ofNat_inj]; exact Nat.mul_left_inj (Nat.ne_of_gt hp)
  simp only [e1, e2]

/-- What is equal to the float of n stands for n. -/
theorem val_of_eq {x : Datum} {n : Nat} (hn : n < 2 ^ 53) (h : (double.read (F n)).order x = some .eq) : Val x n := by
  obtain ⟨j, hj⟩ := read_F n hn
  rw [hj] at h
  cases x with
  | nan s f => simp [Datum.order] at h
  | infinity s => cases s <;> simp [Datum.order] at h
  | number s m i =>
    unfold Datum.order at h
    simp only [Option.some.injEq] at h
    have hq : signed false (n * 2 ^ j) (-(j : Int) - min (-(j : Int)) i).toNat = signed s m (i - min (-(j : Int)) i).toNat := by
      simp only [compare, compareOfLessAndEq] at h
      split at h
      · cases h
      · split at h
        · assumption
        · cases h
    have hb : min (-(j : Int)) i ≤ 0 := by omega
    have e := signed_val (s := false) (m := n * 2 ^ j) (n := n) (j := -(j : Int)) (base := min (-(j : Int)) i) (fun _ => rfl) (by
      rw [Nat.mul_assoc, ← Nat.pow_add]; congr 2; omega)
    rw [e] at hq
    unfold signed at hq
    rw [Nat.shiftLeft_eq] at hq
    cases s with
    | false =>
      simp only [Bool.false_eq_true, if_false] at hq
      exact val_of_base (fun _ => rfl) hb (by omega) (by omega)
    | true =>
      simp only [if_true] at hq
      have hz : n * 2 ^ (-(min (-(j : Int)) i)).toNat = 0 := by omega
      have hp : 0 < 2 ^ (-(min (-(j : Int)) i)).toNat := Nat.pow_pos (by omega)
      have hn0 : n = 0 := by
        rcases Nat.mul_eq_zero.1 hz with h | h
        · exact h
        · omega
      exact val_of_base (fun c => absurd hn0 c) hb (by omega) (by omega)

/-- A sum of a float of ours and of one that stands for b. -/
theorem add_val {a b y : Nat} (ha : a < 2 ^ 53) (hy : Val (double.read y) b) (hab : a + b < 2 ^ 53) : double.add (F a) y = some (F (a + b)) := by
  obtain ⟨j, hj⟩ := read_F a ha
  obtain ⟨s', m', j', e', hs', h'⟩ := hy
  obtain ⟨s, m, i, e, hs, h⟩ := val_F a ha
  rw [hj] at e
  obtain ⟨rfl, rfl, rfl⟩ := Datum.number.inj e
  unfold Format.add
  rw [hj, e']
  unfold Datum.sum
  simp only
  have hb : min (-(j : Int)) j' ≤ 0 := by omega
  rw [signed_val hs (h _ hb (by omega)), signed_val hs' (h' _ hb (by omega))]
  obtain ⟨k, hk⟩ : ∃ k : Nat, min (-(j : Int)) j' = -(k : Int) := ⟨(-(min (-(j : Int)) j')).toNat, by omega⟩
  rw [hk]
  have hkk : (- -(k : Int)).toNat = k := by omega
  rw [hkk, ← Int.natCast_add, ← Nat.add_mul, Int.natAbs_natCast]
  have hsign : (if (((a + b) * 2 ^ k : Nat) : Int) = 0 then (false && s') else decide ((((a + b) * 2 ^ k : Nat) : Int) < 0)) = false := by
    split
    · rfl
    · exact decide_eq_false (by omega)
  rw [hsign]
  simp only [Option.map_some, Format.write]
  rw [nearest_scale _ _ hab]

/-! ### which floats are a part -/
def M : Nat := 4787326403894837248
theorem M_eq : F (2 ^ 40) = M := by decide
theorem F_zero : F 0 = 0 := by decide
def geqB (b : Nat) : Bool := double.order b 0 == some .gt || double.order b 0 == some .eq
def leqB (b : Nat) : Bool := double.order b M == some .lt || double.order b M == some .eq

theorem cut_zero_le (m d c : Nat) (h : m ≤ c * 2 ^ d) : Toward.zero.cut false m d ≤ c := by
  unfold Toward.cut
  simp only [Bool.toNat_false, Nat.add_zero, Nat.one_shiftLeft]
  by_cases hd : d ≤ m.log2 + 2
  · rw [Nat.min_eq_left hd]
    exact Nat.div_le_of_le_mul (by rw [Nat.mul_comm]; exact h)
  · rw [Nat.min_eq_right (by omega)]
    have h1 := Nat.lt_log2_self (n := m)
    have h2 : 2 ^ (m.log2 + 1) ≤ 2 ^ (m.log2 + 2) := Nat.pow_le_pow_right (by omega) (by omega)
    rw [Nat.div_eq_of_lt (by omega)]
    exact Nat.zero_le _

theorem cut_sign (n d : Nat) (s : Bool) : Toward.zero.cut s n d = Toward.zero.cut false n d := rfl

theorem toInt_le {b : Nat} (h0 : geqB b = true) (h1 : leqB b = true) : ∃ n : Nat, (double.read b).toInt .zero = some (n : Int) ∧ n ≤ 2 ^ 40 := by
  have r0 : double.read 0 = .number false 0 (-1074) := by decide
  have rM : double.read M = .number false (2 ^ 52) (-12) := by decide
  unfold geqB Format.order at h0
  unfold leqB Format.order at h1
  rw [r0] at h0
  rw [rM] at h1
  cases hx : double.read b with
  | nan s f => rw [hx] at h0; simp [Datum.order] at h0
  | infinity s => rw [hx] at h0 h1; cases s <;> simp [Datum.order] at h0 h1
  | number s m j =>
    rw [hx] at h0 h1
    unfold Datum.order at h0 h1
    simp only at h0 h1
    have g0 : signed false 0 (-1074 - min j (-1074)).toNat ≤ signed s m (j - min j (-1074)).toNat := by
      simp only [compare, compareOfLessAndEq] at h0
      split at h0
      · simp at h0
      · omega
    have g1 : signed s m (j - min j (-12)).toNat ≤ signed false (2 ^ 52) (-12 - min j (-12)).toNat := by
      simp only [compare, compareOfLessAndEq] at h1
      split at h1
      · omega
      · split at h1
        · omega
        · simp at h1
    unfold signed at g0 g1
    simp only [Nat.shiftLeft_eq, Bool.false_eq_true, if_false] at g0 g1
    have hm : s = true → m = 0 := by
      intro hs
      subst hs
      simp only [if_true] at g0
      have hp : 0 < 2 ^ (j - min j (-1074)).toNat := Nat.pow_pos (by omega)
      have hz : m * 2 ^ (j - min j (-1074)).toNat = 0 := by omega
      rcases Nat.mul_eq_zero.1 hz with h | h
      · exact h
      · omega
    have hb : m * 2 ^ (j - min j (-12)).toNat ≤ 2 ^ 52 * 2 ^ (-12 - min j (-12)).toNat := by
      cases s with
      | false => simp only [Bool.false_eq_true, if_false] at g1; exact Int.ofNat_le.1 g1
      | true => rw [hm rfl]; simp
    have hle : m * 2 ^ j.toNat ≤ 2 ^ 40 * 2 ^ (-j).toNat := by
      by_cases hj : j ≤ -12
      · rw [Int.min_eq_left hj] at hb
        simp only [Int.sub_self, Int.toNat_zero, Nat.pow_zero, Nat.mul_one] at hb
        rw [show j.toNat = 0 by omega, Nat.pow_zero, Nat.mul_one]
        rw [show (-j).toNat = 12 + (-12 - j).toNat by omega, Nat.pow_add, ← Nat.mul_assoc]
        exact hb
      · rw [Int.min_eq_right (by omega)] at hb
        simp only [Int.sub_self, Int.toNat_zero, Nat.pow_zero, Nat.mul_one] at hb
        have h12 : m * 2 ^ j.toNat * 2 ^ 12 ≤ 2 ^ 40 * 2 ^ (-j).toNat * 2 ^ 12 := by
          by_cases hp : 0 ≤ j
          · rw [show (-j).toNat = 0 by omega, Nat.pow_zero, Nat.mul_one, Nat.mul_assoc, ← Nat.pow_add, show j.toNat + 12 = (j - -12).toNat by omega]
            exact hb
          · rw [show j.toNat = 0 by omega, Nat.pow_zero, Nat.mul_one]
            have e : (2 : Nat) ^ 12 = 2 ^ (j - -12).toNat * 2 ^ (-j).toNat := by rw [← Nat.pow_add]; congr 1; omega
            have e40 : (2 : Nat) ^ 40 * 2 ^ (-j).toNat * 2 ^ 12 = 2 ^ 52 * 2 ^ (-j).toNat := by
              rw [Nat.mul_assoc, Nat.mul_comm (2 ^ (-j).toNat), ← Nat.mul_assoc, ← Nat.pow_add]
            rw [e40, e, ← Nat.mul_assoc]
            exact Nat.mul_le_mul_right _ (by omega)
        exact Nat.le_of_mul_le_mul_right h12 (by omega)
    refine ⟨Toward.zero.cut false (m <<< j.toNat) (-j).toNat, ?_, cut_zero_le _ _ _ (by rw [Nat.shiftLeft_eq]; exact hle)⟩
    unfold Datum.toInt Datum.integral
    simp only [cut_sign]
    unfold signed
    cases s with
    | false => simp
    | true => rw [hm rfl]; simp [Toward.cut]

theorem toInt_F (n : Nat) (h : n < 2 ^ 53) : (double.read (F n)).toInt .zero = some (n : Int) := by
  obtain ⟨j, hj⟩ := read_F n h
  rw [hj]
  unfold Datum.toInt Datum.integral
  simp only [Int.neg_neg, Int.toNat_natCast]
  rw [show (-(j : Int)).toNat = 0 by omega, Nat.shiftLeft_zero]
  by_cases h0 : n = 0
  · subst h0; simp [Toward.cut, signed]
  · rw [cut_exact _ _ _ _ h0]; simp [signed]

/-- What int(x) is of a float within the bounds. -/
def pn (b : Nat) : Nat := ((Go.floatToIntVal .f64 b .i64).getD 0).toNat

theorem to_pn {b : Nat} (h0 : geqB b = true) (h1 : leqB b = true) : Go.floatToIntVal .f64 b .i64 = some (pn b : Int) ∧ pn b ≤ 2 ^ 40 := by
  obtain ⟨n, hn, hl⟩ := toInt_le h0 h1
  have e : Go.floatToIntVal .f64 b .i64 = some (n : Int) := by
    unfold Go.floatToIntVal
    have : (Go.FloatKind.f64.decode b).toInt .zero = some (n : Int) := hn
    rw [this]
    have emin : Go.IntKind.min .i64 = -9223372036854775808 := by decide
    have emax : Go.IntKind.max .i64 = 9223372036854775807 := by decide
    have h40 : (n : Int) ≤ 1099511627776 := by omega
    exact if_pos ⟨by omega, by omega⟩
  unfold pn
  rw [e]
  simpa using hl

def inB (b : Nat) : Bool := geqB b && leqB b
/-- Is a float a part; and which. -/
def pB (b : Nat) : Bool := inB b && (double.order (F (pn b)) b == some .eq)
def pN (b : Nat) : Nat := if inB b then pn b else 0

theorem pN_le (b : Nat) : pN b ≤ 2 ^ 40 := by
  unfold pN inB
  split
  · rename_i h
    rw [Bool.and_eq_true] at h
    exact (to_pn h.1 h.2).2
  · omega

theorem val_part {b : Nat} (h : pB b = true) : Val (double.read b) (pN b) := by
  unfold pB at h
  rw [Bool.and_eq_true] at h
  have hi := h.1
  unfold inB at hi
  rw [Bool.and_eq_true] at hi
  have hl := (to_pn hi.1 hi.2).2
  unfold pN
  rw [if_pos h.1]
  exact val_of_eq (by omega) (by simpa [Format.order] using h.2)

theorem part_F {n : Nat} (h : n ≤ 2 ^ 40) : pB (F n) = true ∧ pN (F n) = n := by
  have hv := val_F n (by omega)
  have e0 : double.order (F n) 0 = some (compare n 0) := by
    have := order_val' (a := 0) (by omega) hv
    rw [F_zero] at this
    exact this
  have eM : double.order (F n) M = some (compare n (2 ^ 40)) := by
    have := order_val' (a := 2 ^ 40) (by omega) hv
    rw [M_eq] at this
    exact this
  have g0 : geqB (F n) = true := by
    unfold geqB
    rw [e0]
    simp only [compare, compareOfLessAndEq]
    by_cases h0 : n = 0
    · simp [h0]
    · simp [h0]
  have gM : leqB (F n) = true := by
    unfold leqB
    rw [eM]
    simp only [compare, compareOfLessAndEq]
    by_cases h0 : n < 2 ^ 40
    · rw [if_pos h0]; rfl
    · rw [if_neg h0, if_pos (by omega)]; rfl
  have hi : inB (F n) = true := by unfold inB; rw [g0, gM]; rfl
  have hp : pn (F n) = n := by
    have h1 := (to_pn g0 gM).1
    have h2 := toInt_F n (by omega)
    unfold Go.floatToIntVal at h1
    have h3 : (Go.FloatKind.f64.decode (F n)).toInt .zero = some (n : Int) := h2
    rw [h3] at h1
    simp only at h1
    split at h1
    · simp at h1; omega
    · cases h1
  have he : double.order (F n) (F n) = some .eq := by
    have := order_val (a := n) (by omega) hv
    rw [Format.order, this]
    simp [compare, compareOfLessAndEq]
  constructor
  · unfold pB; rw [hi, hp, he]; rfl
  · unfold pN; rw [if_pos hi, hp]

theorem order_some {b c d : Nat} {o : Ordering} (hc : (double.read c).isNaN = false) (h : double.order b d = some o) : double.order b c ≠ none := by
  unfold Format.order at h ⊢
  generalize double.read d = y at *
  cases hx : double.read b <;> rw [hx] at h <;> cases hy : double.read c <;> rw [hy] at hc <;> simp_all [Datum.order, Datum.isNaN]

end Go.Proofs.Ytdhhkhcgbgofoaa
