/-
  What Sum, Fits, Times of the package toll and of the reference compute.
-/
import Derived.Test.YtdhhkhcgbgofoaaParts
import Derived.LoopTactic
import Derived.Lib.Hide
namespace Go.Proofs.Ytdhhkhcgbgofoaa
open Go.RowKit

theorem tE_le (a b : Nat) : tE a b ≤ 1099511627776 := by
  unfold tE; split
  · exact pN_le a
  · omega
theorem tP_le (a b : Nat) : tP a b ≤ 1099511627776 := by
  unfold tP; split
  · exact pN_le b
  · omega

/-! ### Fits -/
def fitB (a b c d : Nat) : Bool := tB a b && tB c d && decide (tE a b ≤ tE c d) && decide (tP a b ≤ tP c d)

set_option maxHeartbeats 400000 in
theorem fits_any (a b c d : Nat) (w : World) :
    Calls Try.prog 16 #[.complex .f64 a b, .complex .f64 c d] w fun x w' => x = .returned (.bool (fitB a b c d)) ∧ w = w' := by
  have hf : fitB a b c d = (tB a b && tB c d && decide (tE a b ≤ tE c d) && decide (tP a b ≤ tP c d)) := rfl
  rcases h1 : tB a b with _ | _
  · have hz : fitB a b c d = false := by rw [hf, h1]; rfl
    rw [hz]; clear hf hz
    go_enter Try.func16, Try.ntmps16
    go_wp2_with (go_at_call 12; refine (parts_any _ _ _).mono ?_; rintro e w' ⟨rfl, rfl⟩)
    go_ret
    exact ⟨rfl, rfl⟩
  · rcases h2 : tB c d with _ | _
    · have hz : fitB a b c d = false := by rw [hf, h1, h2]; rfl
      rw [hz]; clear hf hz
      go_enter Try.func16, Try.ntmps16
      go_wp2_with (go_at_call 12; refine (parts_any _ _ _).mono ?_; rintro e w' ⟨rfl, rfl⟩)
      go_ret
      exact ⟨rfl, rfl⟩
    · have hb1 := tE_le a b
      have hb2 := tE_le c d
      have hb3 := tP_le a b
      have hb4 := tP_le c d
      by_cases h3 : tE a b ≤ tE c d
      · by_cases h4 : tP a b ≤ tP c d
        · have hz : fitB a b c d = true := by rw [hf, h1, h2, decide_eq_true h3, decide_eq_true h4]; rfl
          rw [hz]; clear hf hz
          go_enter Try.func16, Try.ntmps16
          go_wp2_with (go_at_call 12; refine (parts_any _ _ _).mono ?_; rintro e w' ⟨rfl, rfl⟩)
          go_ret
          exact ⟨by simp, rfl⟩
        · have hz : fitB a b c d = false := by rw [hf, h1, h2, decide_eq_true h3, decide_eq_false h4]; rfl
          rw [hz]; clear hf hz
          go_enter Try.func16, Try.ntmps16
          go_wp2_with (go_at_call 12; refine (parts_any _ _ _).mono ?_; rintro e w' ⟨rfl, rfl⟩)
          go_ret
          exact ⟨by simp, rfl⟩
      · have hz : fitB a b c d = false := by rw [hf, h1, h2, decide_eq_false h3]; rfl
        rw [hz]; clear hf hz
        go_enter Try.func16, Try.ntmps16
        go_wp2_with (go_at_call 12; refine (parts_any _ _ _).mono ?_; rintro e w' ⟨rfl, rfl⟩)
        go_ret
        exact ⟨by simp, rfl⟩

set_option maxHeartbeats 400000 in
theorem refFits_any (a b c d : Nat) (w : World) :
    Calls Try.prog 19 #[.complex .f64 a b, .complex .f64 c d] w fun x w' => x = .returned (.bool (fitB a b c d)) ∧ w = w' := by
  have hf : fitB a b c d = (tB a b && tB c d && decide (tE a b ≤ tE c d) && decide (tP a b ≤ tP c d)) := rfl
  rcases h1 : tB a b with _ | _
  · have hz : fitB a b c d = false := by rw [hf, h1]; rfl
    rw [hz]; clear hf hz
    go_enter Try.func19, Try.ntmps19
    go_wp2_with (go_at_call 13; refine (refParts_any _ _ _).mono ?_; rintro e w' ⟨rfl, rfl⟩)
    go_ret
    exact ⟨rfl, rfl⟩
  · rcases h2 : tB c d with _ | _
    · have hz : fitB a b c d = false := by rw [hf, h1, h2]; rfl
      rw [hz]; clear hf hz
      go_enter Try.func19, Try.ntmps19
      go_wp2_with (go_at_call 13; refine (refParts_any _ _ _).mono ?_; rintro e w' ⟨rfl, rfl⟩)
      go_ret
      exact ⟨rfl, rfl⟩
    · have hb1 := tE_le a b
      have hb2 := tE_le c d
      have hb3 := tP_le a b
      have hb4 := tP_le c d
      by_cases h3 : tE a b ≤ tE c d
      · by_cases h4 : tP a b ≤ tP c d
        · have hz : fitB a b c d = true := by rw [hf, h1, h2, decide_eq_true h3, decide_eq_true h4]; rfl
          rw [hz]; clear hf hz
          go_enter Try.func19, Try.ntmps19
          go_wp2_with (go_at_call 13; refine (refParts_any _ _ _).mono ?_; rintro e w' ⟨rfl, rfl⟩)
          go_ret
          exact ⟨by simp, rfl⟩
        · have hz : fitB a b c d = false := by rw [hf, h1, h2, decide_eq_true h3, decide_eq_false h4]; rfl
          rw [hz]; clear hf hz
          go_enter Try.func19, Try.ntmps19
          go_wp2_with (go_at_call 13; refine (refParts_any _ _ _).mono ?_; rintro e w' ⟨rfl, rfl⟩)
          go_ret
          exact ⟨by simp, rfl⟩
      · have hz : fitB a b c d = false := by rw [hf, h1, h2, decide_eq_false h3]; rfl
        rw [hz]; clear hf hz
        go_enter Try.func19, Try.ntmps19
        go_wp2_with (go_at_call 13; refine (refParts_any _ _ _).mono ?_; rintro e w' ⟨rfl, rfl⟩)
        go_ret
        exact ⟨by simp, rfl⟩

/-! ### Times -/
def tmB (a b : Nat) (n : Int) : Bool := tB a b && decide (0 ≤ n ∧ n ≤ 1048576) && okB (tE a b * n) (tP a b * n)

theorem prod_le {e : Nat} {n : Int} (he : e ≤ 1099511627776) (h0 : 0 ≤ n) (h1 : n ≤ 1048576) : 0 ≤ (e : Int) * n ∧ (e : Int) * n ≤ 1152921504606846976 :=
  ⟨Int.mul_nonneg (by omega) h0, by
    calc (e : Int) * n ≤ 1099511627776 * 1048576 := Int.mul_le_mul (by omega) h1 h0 (by omega)
      _ = 1152921504606846976 := by decide⟩

set_option maxHeartbeats 400000 in
theorem times_any (a b : Nat) (n : Int) (w : World) :
    Calls Try.prog 17 #[.complex .f64 a b, .int .i64 n] w fun x w' => x = .returned (.tuple #[.complex .f64 (ofF (tmB a b n) (tE a b * n)) (ofF (tmB a b n) (tP a b * n)), .bool (tmB a b n)]) ∧ w = w' := by
  have hf : tmB a b n = (tB a b && decide (0 ≤ n ∧ n ≤ 1048576) && okB (tE a b * n) (tP a b * n)) := rfl
  rcases h1 : tB a b with _ | _
  · have hz : tmB a b n = false := by rw [hf, h1]; rfl
    rw [hz, ofF_no, ofF_no]; clear hf hz
    go_enter Try.func17, Try.ntmps17
    go_wp2_with (first | (go_at_call 12; refine (parts_any _ _ _).mono ?_; rintro e w' ⟨rfl, rfl⟩) | (go_at_call 10; refine (of_any _ _ _).mono ?_; rintro e w' ⟨rfl, rfl⟩))
    go_ret2
    exact ⟨rfl, rfl⟩
  · by_cases h2 : 0 ≤ n
    · by_cases h3 : n ≤ 1048576
      · have e1 := prod_le (tE_le a b) h2 h3
        have e2 := prod_le (tP_le a b) h2 h3
        obtain ⟨e1, e3⟩ := e1
        obtain ⟨e2, e4⟩ := e2
        have hz : tmB a b n = okB (tE a b * n) (tP a b * n) := by rw [hf, h1, decide_eq_true ⟨h2, h3⟩]; rfl
        rw [hz]; clear hf hz
        go_enter Try.func17, Try.ntmps17
        go_wp2_with (first | (go_at_call 12; refine (parts_any _ _ _).mono ?_; rintro e w' ⟨rfl, rfl⟩) | (go_at_call 10; refine (of_any _ _ _).mono ?_; rintro e w' ⟨rfl, rfl⟩))
        go_ret2
        exact ⟨rfl, rfl⟩
      · have hz : tmB a b n = false := by rw [hf, decide_eq_false (fun c => h3 c.2)]; simp
        rw [hz, ofF_no, ofF_no]; clear hf hz
        go_enter Try.func17, Try.ntmps17
        go_wp2_with (first | (go_at_call 12; refine (parts_any _ _ _).mono ?_; rintro e w' ⟨rfl, rfl⟩) | (go_at_call 10; refine (of_any _ _ _).mono ?_; rintro e w' ⟨rfl, rfl⟩))
        go_ret2
        exact ⟨rfl, rfl⟩
    · have hz : tmB a b n = false := by rw [hf, decide_eq_false (fun c => h2 c.1)]; simp
      rw [hz, ofF_no, ofF_no]; clear hf hz
      go_enter Try.func17, Try.ntmps17
      go_wp2_with (first | (go_at_call 12; refine (parts_any _ _ _).mono ?_; rintro e w' ⟨rfl, rfl⟩) | (go_at_call 10; refine (of_any _ _ _).mono ?_; rintro e w' ⟨rfl, rfl⟩))
      go_ret2
      exact ⟨rfl, rfl⟩

set_option maxHeartbeats 400000 in
theorem refTimes_any (a b : Nat) (n : Int) (w : World) :
    Calls Try.prog 18 #[.complex .f64 a b, .int .i64 n] w fun x w' => x = .returned (.tuple #[.complex .f64 (ofF (tmB a b n) (tE a b * n)) (ofF (tmB a b n) (tP a b * n)), .bool (tmB a b n)]) ∧ w = w' := by
  have hf : tmB a b n = (tB a b && decide (0 ≤ n ∧ n ≤ 1048576) && okB (tE a b * n) (tP a b * n)) := rfl
  rcases h1 : tB a b with _ | _
  · have hz : tmB a b n = false := by rw [hf, h1]; rfl
    rw [hz, ofF_no, ofF_no]; clear hf hz
    go_enter Try.func18, Try.ntmps18
    go_wp2_with (first | (go_at_call 13; refine (refParts_any _ _ _).mono ?_; rintro e w' ⟨rfl, rfl⟩) | (go_at_call 11; refine (refOf_any _ _ _).mono ?_; rintro e w' ⟨rfl, rfl⟩))
    go_ret2
    exact ⟨rfl, rfl⟩
  · by_cases h2 : 0 ≤ n
    · by_cases h3 : n ≤ 1048576
      · have e1 := prod_le (tE_le a b) h2 h3
        have e2 := prod_le (tP_le a b) h2 h3
        obtain ⟨e1, e3⟩ := e1
        obtain ⟨e2, e4⟩ := e2
        have hz : tmB a b n = okB (tE a b * n) (tP a b * n) := by rw [hf, h1, decide_eq_true ⟨h2, h3⟩]; rfl
        rw [hz]; clear hf hz
        by_cases h4 : (tE a b : Int) * n ≤ 1099511627776
        · by_cases h5 : (tP a b : Int) * n ≤ 1099511627776
          · go_enter Try.func18, Try.ntmps18
            go_wp2_with (first | (go_at_call 13; refine (refParts_any _ _ _).mono ?_; rintro e w' ⟨rfl, rfl⟩) | (go_at_call 11; refine (refOf_any _ _ _).mono ?_; rintro e w' ⟨rfl, rfl⟩))
            go_ret2
            exact ⟨rfl, rfl⟩
          · have hz : okB (tE a b * n) (tP a b * n) = false := decide_eq_false (fun c => h5 c.2.2.2)
            rw [hz, ofF_no, ofF_no]; clear hz
            go_enter Try.func18, Try.ntmps18
            go_wp2_with (first | (go_at_call 13; refine (refParts_any _ _ _).mono ?_; rintro e w' ⟨rfl, rfl⟩) | (go_at_call 11; refine (refOf_any _ _ _).mono ?_; rintro e w' ⟨rfl, rfl⟩))
            go_ret2
            exact ⟨rfl, rfl⟩
        · have hz : okB (tE a b * n) (tP a b * n) = false := decide_eq_false (fun c => h4 c.2.1)
          rw [hz, ofF_no, ofF_no]; clear hz
          go_enter Try.func18, Try.ntmps18
          go_wp2_with (first | (go_at_call 13; refine (refParts_any _ _ _).mono ?_; rintro e w' ⟨rfl, rfl⟩) | (go_at_call 11; refine (refOf_any _ _ _).mono ?_; rintro e w' ⟨rfl, rfl⟩))
          go_ret2
          exact ⟨rfl, rfl⟩
      · have hz : tmB a b n = false := by rw [hf, decide_eq_false (fun c => h3 c.2)]; simp
        rw [hz, ofF_no, ofF_no]; clear hf hz
        go_enter Try.func18, Try.ntmps18
        go_wp2_with (first | (go_at_call 13; refine (refParts_any _ _ _).mono ?_; rintro e w' ⟨rfl, rfl⟩) | (go_at_call 11; refine (refOf_any _ _ _).mono ?_; rintro e w' ⟨rfl, rfl⟩))
        go_ret2
        exact ⟨rfl, rfl⟩
    · have hz : tmB a b n = false := by rw [hf, decide_eq_false (fun c => h2 c.1)]; simp
      rw [hz, ofF_no, ofF_no]; clear hf hz
      go_enter Try.func18, Try.ntmps18
      go_wp2_with (first | (go_at_call 13; refine (refParts_any _ _ _).mono ?_; rintro e w' ⟨rfl, rfl⟩) | (go_at_call 11; refine (refOf_any _ _ _).mono ?_; rintro e w' ⟨rfl, rfl⟩))
      go_ret2
      exact ⟨rfl, rfl⟩

/-! ### Sum -/
/-- A slice value that reads as a list of complex numbers. -/
def CRow (w : World) (v : Value) (l : List (Nat × Nat)) : Prop :=
  (l = [] ∧ ∃ a c, v = .slice a 0 c) ∨
  ∃ b off c, v = .slice (some ⟨b, off, none⟩) l.length c ∧ ∀ i, i < l.length → w.cell? ⟨b, off + i, none⟩ = some (.complex .f64 (l.getD i (0, 0)).1 (l.getD i (0, 0)).2)

def step (x : Nat × Nat) (c : Nat × Nat) : Nat × Nat := (min (x.1 + tE c.1 c.2) 1099511627776, min (x.2 + tP c.1 c.2) 1099511627776)
def sumE (l : List (Nat × Nat)) : Nat × Nat := l.foldl step (0, 0)

theorem sumE_snoc (l : List (Nat × Nat)) (c : Nat × Nat) : sumE (l ++ [c]) = step (sumE l) c := by
  unfold sumE; rw [List.foldl_append]; rfl

theorem sumE_le (l : List (Nat × Nat)) : (sumE l).1 ≤ 1099511627776 ∧ (sumE l).2 ≤ 1099511627776 := by
  unfold sumE
  have h : ∀ (l : List (Nat × Nat)) (s : Nat × Nat), s.1 ≤ 1099511627776 ∧ s.2 ≤ 1099511627776 → (l.foldl step s).1 ≤ 1099511627776 ∧ (l.foldl step s).2 ≤ 1099511627776 := by
    intro l
    induction l with
    | nil => intro s h; exact h
    | cons c l ih => intro s _; exact ih _ ⟨Nat.min_le_right _ _, Nat.min_le_right _ _⟩
  exact h l (0, 0) ⟨Nat.zero_le _, Nat.zero_le _⟩

theorem take_step (l : List (Nat × Nat)) (k : Nat) (h : k < l.length) : sumE (l.take (k + 1)) = step (sumE (l.take k)) (l.getD k (0, 0)) := by
  rw [List.take_succ_eq_append_getElem h, sumE_snoc, List.getD_eq_getElem?_getD, List.getElem?_eq_getElem h]; rfl

theorem run_min (n : Nat) (w : World) (h : n < 2 ^ 53) : (Builtin.min_ #[22, 22] 22 #[.float .f64 (F n), .float .f64 4787326403894837248]).run Try.prog w = .ok (.float .f64 (F (min n 1099511627776))) w := by
  have ho : FloatKind.f64.format.order (F n) 4787326403894837248 = some (compare n (2 ^ 40)) := by
    have := order_val' (a := 2 ^ 40) (by omega) (val_F n h)
    rw [M_eq] at this
    exact this
  have hM : F 1099511627776 = 4787326403894837248 := M_eq
  unfold Builtin.min_
  simp only [List.foldlM, Builtin.min2, ho]
  rcases hc : compare n (2 ^ 40) with _ | _ | _
  · have : n < 2 ^ 40 := Nat.compare_eq_lt.1 hc
    rw [Nat.min_eq_left (by omega)]
    simp
  · have : n = 2 ^ 40 := Nat.compare_eq_eq.1 hc
    subst this
    simp [hM]
  · have : 2 ^ 40 < n := Nat.compare_eq_gt.1 hc
    rw [Nat.min_eq_right (by omega), hM]
    simp

theorem add_part {x a b : Nat} (h : tB a b = true) (hx : x ≤ 1099511627776) : floatBits .add .f64 (F x) a = some (F (x + tE a b)) := by
  unfold tB at h
  rw [Bool.and_eq_true] at h
  have hl := tE_le a b
  have e : tE a b = pN a := by unfold tE tB; rw [if_pos (by rw [h.1, h.2]; rfl)]
  rw [e] at hl ⊢
  exact add_val (by omega) (val_part h.1) (by omega)
theorem add_part' {x a b : Nat} (h : tB a b = true) (hx : x ≤ 1099511627776) : floatBits .add .f64 (F x) b = some (F (x + tP a b)) := by
  unfold tB at h
  rw [Bool.and_eq_true] at h
  have hl := tP_le a b
  have e : tP a b = pN b := by unfold tP tB; rw [if_pos (by rw [h.1, h.2]; rfl)]
  rw [e] at hl ⊢
  exact add_val (by omega) (val_part h.2) (by omega)
theorem run_add {x y a b : Nat} (w : World) (h : tB a b = true) (hx : x ≤ 1099511627776) (hy : y ≤ 1099511627776) :
    (binOp .add 24 (.complex .f64 (F x) (F y)) (.complex .f64 a b)).run Try.prog w = .ok (.complex .f64 (F (x + tE a b)) (F (y + tP a b))) w :=
  run_complex_sum w .add (.inl rfl) 24 .f64 _ _ _ _ _ _ (by unfold cSumBits; rw [add_part h hx, add_part' h hy]; rfl)

theorem step_no {a b : Nat} (x : Nat × Nat) (h : tB a b = false) (hx : x.1 ≤ 1099511627776 ∧ x.2 ≤ 1099511627776) : step x (a, b) = x := by
  unfold step tE tP
  rw [h]
  obtain ⟨x, y⟩ := x
  simp only [Bool.false_eq_true, if_false, Nat.add_zero]
  rw [Nat.min_eq_left hx.1, Nat.min_eq_left hx.2]

theorem ret_cx {x y : Nat × Nat} (h : x = y) : Ending.returned (.complex .f64 (F x.1) (F x.2)) = Ending.returned (.complex .f64 (F y.1) (F y.2)) := by rw [h]

set_option maxHeartbeats 400000 in
theorem sum_nil (a : Option Addr) (c : Nat) (w : World) :
    Calls Try.prog 14 #[.slice a 0 c] w fun x w' => x = .returned (.complex .f64 0 0) ∧ w = w' := by
  go_enter Try.func14, Try.ntmps14
  go_wp2
  go_loop [3, 11] (fun s i => i = .int .i64 0 ∧ s = .complex .f64 0 0) (fun _ _ => 0)
  case atStart => exact ⟨rfl, rfl⟩
  case round =>
    obtain ⟨rfl, rfl⟩ := hrel
    go_wp2
    go_ret
    exact ⟨rfl, rfl⟩

set_option maxHeartbeats 400000 in
theorem sum_row (b off c : Nat) (l : List (Nat × Nat)) (w : World) (hl : l.length ≤ 1000000000) (hc : ∀ i, i < l.length → w.cell? ⟨b, off + i, none⟩ = some (.complex .f64 (l.getD i (0, 0)).1 (l.getD i (0, 0)).2)) :
    Calls Try.prog 14 #[.slice (some ⟨b, off, none⟩) l.length c] w fun x w' => x = .returned (.complex .f64 (F (sumE l).1) (F (sumE l).2)) ∧ w = w' := by
  have HC := Lib.hid hc
  clear hc
  go_enter Try.func14, Try.ntmps14
  go_wp2
  go_loop [3, 11] (fun s i => ∃ k : Nat, k ≤ l.length ∧ i = .int .i64 k ∧ s = .complex .f64 (F (sumE (l.take k)).1) (F (sumE (l.take k)).2)) (fun _ i => l.length - (intOf i).toNat)
  case atStart => exact ⟨0, Nat.zero_le _, rfl, by rw [List.take_zero]; show _ = Value.complex _ (F 0) (F 0); rw [F_zero]⟩
  case round =>
    obtain ⟨k, hk, rfl, rfl⟩ := hrel
    by_cases hlt : k < l.length
    · have hcell := HC.out k hlt
      have hb := sumE_le (l.take k)
      have HT := Lib.hid (take_step l k hlt)
      rcases hg : l.getD k (0, 0) with ⟨re, im⟩
      rw [hg] at hcell
      have HG := Lib.hid hg
      clear hg
      generalize hx : sumE (l.take k) = x at *
      obtain ⟨x, y⟩ := x
      clear hx
      simp only at hb hcell
      obtain ⟨hx1, hy1⟩ := hb
      rcases hB : tB re im with _ | _
      · go_wp2_with (go_at_call 12; refine (parts_any _ _ _).mono ?_; rintro e w' ⟨rfl, rfl⟩)
        go_round
        case rel =>
          have := step_no (x, y) hB ⟨hx1, hy1⟩
          exact ⟨k + 1, by omega, by go_num, by rw [HT.out, HG.out, this]⟩
        case measure => simp [intOf]; omega
      · have hadd := run_add w hB hx1 hy1
        have l1 := tE_le re im
        have l2 := tP_le re im
        have hm1 := run_min (x + tE re im) w (by omega)
        have hm2 := run_min (y + tP re im) w (by omega)
        go_wp2_with (go_at_call 12; refine (parts_any _ _ _).mono ?_; rintro e w' ⟨rfl, rfl⟩)
        go_round
        case rel => exact ⟨k + 1, by omega, by go_num, by rw [HT.out, HG.out]; rfl⟩
        case measure => simp [intOf]; omega
    · have HE := Lib.hid (show sumE (l.take k) = sumE l by rw [List.take_of_length_le (by omega)])
      generalize sumE (l.take k) = x at *
      go_wp2
      go_ret
      exact ⟨ret_cx HE.out, rfl⟩

theorem sum_any (v : Value) (l : List (Nat × Nat)) (w : World) (hl : l.length ≤ 1000000000) (hv : CRow w v l) :
    Calls Try.prog 14 #[v] w fun x w' => x = .returned (.complex .f64 (F (sumE l).1) (F (sumE l).2)) ∧ w = w' := by
  rcases hv with ⟨rfl, a, c, rfl⟩ | ⟨b, off, c, rfl, hc⟩
  · have e : F (sumE []).1 = 0 := F_zero
    have e' : F (sumE []).2 = 0 := F_zero
    rw [e, e']
    exact sum_nil a c w
  · exact sum_row b off c l w hl hc

/-! ### the reference's Sum -/
theorem capped_any (n : Nat) (w : World) (h : n ≤ 2199023255552) :
    Calls Try.prog 23 #[.int .i64 n] w fun x w' => x = .returned (.int .i64 (min n 1099511627776 : Nat)) ∧ w = w' := by
  by_cases hc : (1099511627776 : Int) < n
  · rw [Nat.min_eq_right (by omega)]
    go_enter Try.func23, Try.ntmps23
    go_wp2
    go_ret
    exact ⟨rfl, rfl⟩
  · rw [Nat.min_eq_left (by omega)]
    go_enter Try.func23, Try.ntmps23
    go_wp2
    go_ret
    exact ⟨rfl, rfl⟩

set_option maxHeartbeats 400000 in
theorem refSum_nil (a : Option Addr) (c : Nat) (w : World) :
    Calls Try.prog 15 #[.slice a 0 c] w fun x w' => x = .returned (.complex .f64 0 0) ∧ w = w' := by
  have hof : ∀ w, Calls Try.prog 11 #[.int .i64 0, .int .i64 0] w fun x w' => x = .returned (.tuple #[.complex .f64 0 0, .bool true]) ∧ w = w' := by
    intro w
    have h := refOf_yes 0 0 w (by decide) (by decide)
    rw [F_zero] at h
    exact h
  have HO := Lib.hid hof
  clear hof
  go_enter Try.func15, Try.ntmps15
  go_wp2
  go_loop [3, 4, 5] (fun s t i => i = .int .i64 0 ∧ s = .int .i64 0 ∧ t = .int .i64 0) (fun _ _ _ => 0)
  case atStart => exact ⟨rfl, rfl, rfl⟩
  case round =>
    obtain ⟨rfl, rfl, rfl⟩ := hrel
    go_wp2_with (go_at_call 11; refine (HO.out _).mono ?_; rintro e w' ⟨rfl, rfl⟩)
    go_ret
    exact ⟨rfl, rfl⟩

set_option maxHeartbeats 800000 in
theorem refSum_row (b off c : Nat) (l : List (Nat × Nat)) (w : World) (hl : l.length ≤ 1000000000) (hc : ∀ i, i < l.length → w.cell? ⟨b, off + i, none⟩ = some (.complex .f64 (l.getD i (0, 0)).1 (l.getD i (0, 0)).2)) :
    Calls Try.prog 15 #[.slice (some ⟨b, off, none⟩) l.length c] w fun x w' => x = .returned (.complex .f64 (F (sumE l).1) (F (sumE l).2)) ∧ w = w' := by
  have HC := Lib.hid hc
  clear hc
  go_enter Try.func15, Try.ntmps15
  go_wp2
  go_loop [3, 4, 5] (fun s t i => ∃ k : Nat, k ≤ l.length ∧ i = .int .i64 k ∧ s = .int .i64 (sumE (l.take k)).1 ∧ t = .int .i64 (sumE (l.take k)).2) (fun _ _ i => l.length - (intOf i).toNat)
  case atStart => exact ⟨0, Nat.zero_le _, rfl, by rw [List.take_zero]; rfl, by rw [List.take_zero]; rfl⟩
  case round =>
    obtain ⟨k, hk, rfl, rfl, rfl⟩ := hrel
    by_cases hlt : k < l.length
    · have hcell := HC.out k hlt
      have hb := sumE_le (l.take k)
      have HT := Lib.hid (take_step l k hlt)
      rcases hg : l.getD k (0, 0) with ⟨re, im⟩
      rw [hg] at hcell
      have HG := Lib.hid hg
      clear hg
      generalize hx : sumE (l.take k) = x at *
      obtain ⟨x, y⟩ := x
      clear hx
      simp only at hb hcell
      obtain ⟨hx1, hy1⟩ := hb
      have l1 := tE_le re im
      have l2 := tP_le re im
      have HC1 := Lib.hid (capped_any (x + tE re im) w (by omega))
      have HC2 := Lib.hid (capped_any (y + tP re im) w (by omega))
      simp only [Int.natCast_add] at HC1 HC2
      go_wp2_with (first | (go_at_call 13; refine (refParts_any _ _ _).mono ?_; rintro e w' ⟨rfl, rfl⟩) | (go_at_call 23; with_reducible refine HC1.out.mono ?_; rintro e w' ⟨rfl, rfl⟩) | (go_at_call 23; with_reducible refine HC2.out.mono ?_; rintro e w' ⟨rfl, rfl⟩))
      go_round
      case rel => exact ⟨k + 1, by omega, by go_num, by rw [HT.out, HG.out]; rfl, by rw [HT.out, HG.out]; rfl⟩
      case measure => simp [intOf]; omega
    · have HE := Lib.hid (show sumE (l.take k) = sumE l by rw [List.take_of_length_le (by omega)])
      have hb := sumE_le (l.take k)
      generalize sumE (l.take k) = x at *
      have HO := Lib.hid (refOf_yes x.1 x.2 w (by omega) (by omega))
      go_wp2_with (go_at_call 11; refine HO.out.mono ?_; rintro e w' ⟨rfl, rfl⟩)
      go_ret
      exact ⟨ret_cx HE.out, rfl⟩

theorem refSum_any (v : Value) (l : List (Nat × Nat)) (w : World) (hl : l.length ≤ 1000000000) (hv : CRow w v l) :
    Calls Try.prog 15 #[v] w fun x w' => x = .returned (.complex .f64 (F (sumE l).1) (F (sumE l).2)) ∧ w = w' := by
  rcases hv with ⟨rfl, a, c, rfl⟩ | ⟨b, off, c, rfl, hc⟩
  · have e : F (sumE []).1 = 0 := F_zero
    have e' : F (sumE []).2 = 0 := F_zero
    rw [e, e']
    exact refSum_nil a c w
  · exact refSum_row b off c l w hl hc

end Go.Proofs.Ytdhhkhcgbgofoaa
