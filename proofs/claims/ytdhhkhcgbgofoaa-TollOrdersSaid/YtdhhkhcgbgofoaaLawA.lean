/-
  The walks of the laws TollParts and TollTimes: each returns true and leaves memory as it was.
-/
import Derived.Test.YtdhhkhcgbgofoaaSums
namespace Go.Proofs.Ytdhhkhcgbgofoaa
open Go.RowKit
set_option linter.unusedVariables false

theorem F_two : F 2 = 4611686018427387904 := by decide
theorem F_three : F 3 = 4613937818241073152 := by decide

theorem parts_F {a b : Nat} (ha : a ≤ 1099511627776) (hb : b ≤ 1099511627776) : tB (F a) (F b) = true ∧ tE (F a) (F b) = a ∧ tP (F a) (F b) = b := by
  have h1 := part_F (n := a) ha
  have h2 := part_F (n := b) hb
  have h : tB (F a) (F b) = true := by unfold tB; rw [h1.1, h2.1]; rfl
  refine ⟨h, ?_, ?_⟩
  · unfold tE; rw [if_pos h, h1.2]
  · unfold tP; rw [if_pos h, h2.2]

theorem parts_yes (a b : Nat) (ha : a ≤ 1099511627776) (hb : b ≤ 1099511627776) (w : World) :
    Calls Try.prog 12 #[.complex .f64 (F a) (F b)] w fun x w' => x = .returned (.tuple #[.int .i64 a, .int .i64 b, .bool true]) ∧ w = w' := by
  have h := parts_any (F a) (F b) w
  obtain ⟨h1, h2, h3⟩ := parts_F ha hb
  rw [h1, h2, h3] at h
  exact h

theorem parts_23 (w : World) : Calls Try.prog 12 #[.complex .f64 4611686018427387904 4613937818241073152] w fun x w' => x = .returned (.tuple #[.int .i64 2, .int .i64 3, .bool true]) ∧ w = w' := by
  have h := parts_yes 2 3 (by decide) (by decide) w
  rw [F_two, F_three] at h
  exact h

theorem alive_any (w : World) : Calls Try.prog 9 #[] w fun x w' => x = .returned (.bool true) ∧ w = w' := by
  go_enter Try.func9, Try.ntmps9
  go_wp2_with (go_at_call 12; refine (parts_23 _).mono ?_; rintro e w' ⟨rfl, rfl⟩)
  go_ret
  exact ⟨rfl, rfl⟩

theorem order_self {n : Nat} (h : n ≤ 1099511627776) : FloatKind.f64.format.order (F n) (F n) = some .eq := by
  have := order_val (a := n) (by omega) (val_F n (by omega))
  show (Ieee.double.read (F n)).order (Ieee.double.read (F n)) = _
  rw [this]
  simp [compare, compareOfLessAndEq]

theorem order_ofF {ok : Bool} {e : Int} (h : ok = true → 0 ≤ e ∧ e ≤ 1099511627776) : FloatKind.f64.format.order (ofF ok e) (ofF ok e) = some .eq := by
  cases ok with
  | false => rw [ofF_no, ← F_zero]; exact order_self (by omega)
  | true =>
    obtain ⟨h0, h1⟩ := h rfl
    obtain ⟨e, rfl⟩ := Int.eq_ofNat_of_zero_le h0
    rw [ofF_yes]; exact order_self (by omega)

theorem okB_bd {e p : Int} (h : okB e p = true) : (0 ≤ e ∧ e ≤ 1099511627776) ∧ 0 ≤ p ∧ p ≤ 1099511627776 := by
  have := of_decide_eq_true h
  omega

set_option maxHeartbeats 400000 in
theorem tollParts_walk (e : Int) (we : (Lit.int .i64 e).wf = true) (p : Int) (wp : (Lit.int .i64 p).wf = true) (re : Nat) (wr : (Lit.float .f64 re).wf = true) (im : Nat) (wi : (Lit.float .f64 im).wf = true) (w : World) :
    Calls Try.prog 3 #[.int .i64 e, .int .i64 p, .float .f64 re, .float .f64 im] w fun x w' => x = .returned (.bool true) ∧ Below w.heap.size w w' := by
  have h1 := order_ofF (ok := okB e p) (e := e) (fun h => (okB_bd h).1)
  have h2 := order_ofF (ok := okB e p) (e := p) (fun h => (okB_bd h).2)
  rcases hok : okB e p with _ | _
  · rw [hok] at h1 h2
    go_enter Try.func3, Try.ntmps3
    go_wp2_with (first | (go_at_call 9; refine (alive_any _).mono ?_; rintro e w' ⟨rfl, rfl⟩) | (go_at_call 10; refine (of_any _ _ _).mono ?_; rintro e w' ⟨rfl, rfl⟩) | (go_at_call 11; refine (refOf_any _ _ _).mono ?_; rintro e w' ⟨rfl, rfl⟩) | (go_at_call 12; refine (parts_any _ _ _).mono ?_; rintro e w' ⟨rfl, rfl⟩) | (go_at_call 13; refine (refParts_any _ _ _).mono ?_; rintro e w' ⟨rfl, rfl⟩))
    go_ret
    exact ⟨rfl, Below.refl _ _⟩
  · obtain ⟨⟨b1, b2⟩, b3, b4⟩ := okB_bd hok
    rw [hok] at h1 h2
    obtain ⟨e, rfl⟩ := Int.eq_ofNat_of_zero_le b1
    obtain ⟨p, rfl⟩ := Int.eq_ofNat_of_zero_le b3
    rw [ofF_yes] at h1 h2
    obtain ⟨g1, g2, g3⟩ := parts_F (a := e) (b := p) (by omega) (by omega)
    have o1 := ofF_yes e
    have o2 := ofF_yes p
    go_enter Try.func3, Try.ntmps3
    go_wp2_with (first | (go_at_call 9; refine (alive_any _).mono ?_; rintro e w' ⟨rfl, rfl⟩) | (go_at_call 10; refine (of_any _ _ _).mono ?_; rintro e w' ⟨rfl, rfl⟩) | (go_at_call 11; refine (refOf_any _ _ _).mono ?_; rintro e w' ⟨rfl, rfl⟩) | (go_at_call 12; refine (parts_any _ _ _).mono ?_; rintro e w' ⟨rfl, rfl⟩) | (go_at_call 13; refine (refParts_any _ _ _).mono ?_; rintro e w' ⟨rfl, rfl⟩))
    go_ret
    exact ⟨rfl, Below.refl _ _⟩

theorem tmB_bd {a b : Nat} {n : Int} (h : tmB a b n = true) : (0 ≤ (tE a b : Int) * n ∧ (tE a b : Int) * n ≤ 1099511627776) ∧ 0 ≤ (tP a b : Int) * n ∧ (tP a b : Int) * n ≤ 1099511627776 := by
  unfold tmB at h
  rw [Bool.and_eq_true] at h
  exact okB_bd h.2

set_option maxHeartbeats 400000 in
theorem tollTimes_walk (re : Nat) (wr : (Lit.float .f64 re).wf = true) (im : Nat) (wi : (Lit.float .f64 im).wf = true) (x : Nat) (wx : (Lit.float .f64 x).wf = true) (y : Nat) (wy : (Lit.float .f64 y).wf = true) (n : Int) (wn : (Lit.int .i64 n).wf = true) (w : World) :
    Calls Try.prog 7 #[.float .f64 re, .float .f64 im, .float .f64 x, .float .f64 y, .int .i64 n] w fun x w' => x = .returned (.bool true) ∧ Below w.heap.size w w' := by
  have h1 := order_ofF (ok := tmB re im n) (e := tE re im * n) (fun h => (tmB_bd h).1)
  have h2 := order_ofF (ok := tmB re im n) (e := tP re im * n) (fun h => (tmB_bd h).2)
  clear wr wi wx wy wn
  generalize hA : ofF (tmB re im n) (tE re im * n) = A at *
  generalize hB : ofF (tmB re im n) (tP re im * n) = B at *
  have ht := times_any re im n
  have hr := refTimes_any re im n
  rw [hA, hB] at ht hr
  have HT := Lib.hid ht
  have HR := Lib.hid hr
  clear ht hr hA hB
  go_enter Try.func7, Try.ntmps7
  go_wp2_with (first | (go_at_call 9; refine (alive_any _).mono ?_; rintro e w' ⟨rfl, rfl⟩) | (go_at_call 17; refine (HT.out _).mono ?_; rintro e w' ⟨rfl, rfl⟩) | (go_at_call 18; refine (HR.out _).mono ?_; rintro e w' ⟨rfl, rfl⟩) | (go_at_call 16; refine (fits_any _ _ _ _ _).mono ?_; rintro e w' ⟨rfl, rfl⟩) | (go_at_call 19; refine (refFits_any _ _ _ _ _).mono ?_; rintro e w' ⟨rfl, rfl⟩))
  go_ret
  exact ⟨rfl, Below.refl _ _⟩

end Go.Proofs.Ytdhhkhcgbgofoaa
