/-
  The walk of the law TollRooms: it returns true and leaves memory as it was, but for new blocks.
-/
import Derived.Test.YtdhhkhcgbgofoaaLawC
import Derived.Deep.QuietTactic
import Derived.BigQuiet
namespace Go.Proofs.Ytdhhkhcgbgofoaa
open Go.RowKit
set_option linter.unusedVariables false

theorem fit_F {a b c d : Nat} (ha : a ≤ 1099511627776) (hb : b ≤ 1099511627776) (hc : c ≤ 1099511627776) (hd : d ≤ 1099511627776) : fitB (F a) (F b) (F c) (F d) = (decide (a ≤ c) && decide (b ≤ d)) := by
  have h1 := parts_F ha hb
  have h2 := parts_F hc hd
  unfold fitB
  rw [h1.1, h1.2.1, h1.2.2, h2.1, h2.2.1, h2.2.2]
  rfl

theorem fits_F (a b c d : Nat) (w : World) (ha : a ≤ 1099511627776) (hb : b ≤ 1099511627776) (hc : c ≤ 1099511627776) (hd : d ≤ 1099511627776) (r : Bool) (hr : (decide (a ≤ c) && decide (b ≤ d)) = r) :
    Calls Try.prog 16 #[.complex .f64 (F a) (F b), .complex .f64 (F c) (F d)] w fun x w' => x = .returned (.bool r) ∧ w' = w :=
  (fits_any (F a) (F b) (F c) (F d) w).mono fun x w' ⟨h1, h2⟩ => ⟨by rw [h1, fit_F ha hb hc hd, hr], h2.symm⟩

theorem fits_zero (a b : Nat) (w : World) (ha : a ≤ 1099511627776) (hb : b ≤ 1099511627776) :
    Calls Try.prog 16 #[.complex .f64 0 0, .complex .f64 (F a) (F b)] w fun x w' => x = .returned (.bool true) ∧ w' = w := by
  have h := fits_F 0 0 a b w (by omega) (by omega) ha hb true (by simp)
  rw [F_zero] at h
  exact h

theorem below3 (w : World) (o o' o'' : Obj) : Below w.heap.size w (((w.alloc o).alloc o').alloc o'') := (((Below.refl _ _).alloc (Nat.le_refl _) o).alloc (by simp) o').alloc (by simp; omega) o''

set_option maxRecDepth 100000 in
set_option maxHeartbeats 1000000 in
theorem tollRooms_in (a0 a1 b0 b1 c0 c1 : Nat) (w : World) (h0 : (a0 : Int) ≤ 1099511627776) (h1 : (a1 : Int) ≤ 1099511627776) (h2 : (b0 : Int) ≤ 1099511627776) (h3 : (b1 : Int) ≤ 1099511627776) (h4 : (c0 : Int) ≤ 1099511627776) (h5 : (c1 : Int) ≤ 1099511627776) :
    Calls Try.prog 5 #[.agg #[.int .i64 a0, .int .i64 a1], .agg #[.int .i64 b0, .int .i64 b1], .agg #[.int .i64 c0, .int .i64 c1]] w fun x w' => x = .returned (.bool true) ∧ Below w.heap.size w w' := by
  have HA := Lib.hid (fun w => of_yes a0 a1 w h0 h1)
  have HB := Lib.hid (fun w => of_yes b0 b1 w h2 h3)
  have HC := Lib.hid (fun w => of_yes c0 c1 w h4 h5)
  have HXX := Lib.hid (fun w => fits_F a0 a1 a0 a1 w (by omega) (by omega) (by omega) (by omega) true (by simp))
  have HZX := Lib.hid (fun w => fits_zero a0 a1 w (by omega) (by omega))
  have HXS := Lib.hid (fun w => fits_F a0 a1 (min (a0 + b0) 1099511627776) (min (a1 + b1) 1099511627776) w (by omega) (by omega) (by omega) (by omega) true (by rw [decide_eq_true (by omega), decide_eq_true (by omega)]; rfl))
  have hpa := parts_F (a := a0) (b := a1) (by omega) (by omega)
  have hpb := parts_F (a := b0) (b := b1) (by omega) (by omega)
  have hsum : sumE [(F a0, F a1), (F b0, F b1)] = (min (a0 + b0) 1099511627776, min (a1 + b1) 1099511627776) := by
    simp only [sumE, List.foldl, step, hpa.2.1, hpa.2.2, hpb.2.1, hpb.2.2, Nat.zero_add]
    rw [Nat.min_eq_left (show a0 ≤ 1099511627776 by omega), Nat.min_eq_left (show a1 ≤ 1099511627776 by omega)]
  have HS0 := fun b w h => refSum_row b 0 2 [(F a0, F a1), (F b0, F b1)] w (by simp) h
  rw [hsum] at HS0
  have HS := Lib.hid HS0
  clear hpa hpb hsum HS0
  go_enter Try.func5, Try.ntmps5
  go_wp2_with (first | (go_at_call 9; refine (alive_any _).mono ?_; rintro e w' ⟨rfl, rfl⟩) | (go_at_call 10; with_reducible refine (HA.out _).mono ?_; rintro e w' ⟨rfl, rfl⟩) | (go_at_call 10; with_reducible refine (HB.out _).mono ?_; rintro e w' ⟨rfl, rfl⟩) | (go_at_call 10; with_reducible refine (HC.out _).mono ?_; rintro e w' ⟨rfl, rfl⟩))
  by_cases g0 : a0 ≤ b0
  · by_cases g1 : a1 ≤ b1
    · have d0 : (a0 : Int) ≤ (b0 : Int) := by omega
      have d1 : (a1 : Int) ≤ (b1 : Int) := by omega
      have hxy0 := fun w => fits_F a0 a1 b0 b1 w (by omega) (by omega) (by omega) (by omega) true (by rw [decide_eq_true g0, decide_eq_true g1]; rfl)
      have HXY := Lib.hid hxy0
      clear hxy0
      skip
      go_quiet ((go_at_call 16; exact Calls.quiet_of_same (HXY.out _)))
      have hcw : Below w.heap.size w ((((w.alloc (.cells #[.int .i64 a0, .int .i64 a1] 35)).alloc (.cells #[.int .i64 b0, .int .i64 b1] 35)).alloc (.cells #[.int .i64 c0, .int .i64 c1] 35)).drewN nq) := below_drewN (below3 _ _ _ _) _
      generalize ((((w.alloc (.cells #[.int .i64 a0, .int .i64 a1] 35)).alloc (.cells #[.int .i64 b0, .int .i64 b1] 35)).alloc (.cells #[.int .i64 c0, .int .i64 c1] 35)).drewN nq) = W at *
      clear d0 d1
      by_cases g2 : b0 ≤ c0 ∧ b1 ≤ c1
      · have hyz0 := fun w => fits_F b0 b1 c0 c1 w (by omega) (by omega) (by omega) (by omega) true (by rw [decide_eq_true g2.1, decide_eq_true g2.2]; rfl)
        have HYZ := Lib.hid hyz0
        have hxz0 := fun w => fits_F a0 a1 c0 c1 w (by omega) (by omega) (by omega) (by omega) true (by rw [decide_eq_true (Nat.le_trans g0 g2.1), decide_eq_true (Nat.le_trans g1 g2.2)]; rfl)
        have HXZ := Lib.hid hxz0
        clear hyz0 hxz0 g0 g1 g2
        have hrow : ∀ i, i < [(F a0, F a1), (F b0, F b1)].length → (W.alloc (.cells #[.complex .f64 (F a0) (F a1), .complex .f64 (F b0) (F b1)] 24)).cell? ⟨W.heap.size, 0 + i, none⟩ = some (.complex .f64 ([(F a0, F a1), (F b0, F b1)].getD i (0, 0)).1 ([(F a0, F a1), (F b0, F b1)].getD i (0, 0)).2) := by
          intro i hi
          rw [Nat.zero_add, World.cell?_alloc_at _ _ _ _ rfl]
          match i, hi with
          | 0, _ => rfl
          | 1, _ => rfl
        have HROW := Lib.hid hrow
        have hz := hcw.size
        clear hrow
        go_wp2_with (first | (go_at_call 16; with_reducible refine (HXY.out _).mono ?_; rintro e w' ⟨rfl, rfl⟩) | (go_at_call 16; with_reducible refine (HYZ.out _).mono ?_; rintro e w' ⟨rfl, rfl⟩) | (go_at_call 16; with_reducible refine (HXZ.out _).mono ?_; rintro e w' ⟨rfl, rfl⟩) | (go_at_call 16; with_reducible refine (HXX.out _).mono ?_; rintro e w' ⟨rfl, rfl⟩) | (go_at_call 16; with_reducible refine (HZX.out _).mono ?_; rintro e w' ⟨rfl, rfl⟩) | (go_at_call 16; with_reducible refine (HXS.out _).mono ?_; rintro e w' ⟨rfl, rfl⟩) | (go_at_call 15; refine (HS.out _ _ HROW.out).mono ?_; rintro e w' ⟨rfl, rfl⟩))
        go_ret
        exact ⟨rfl, hcw.alloc hz _⟩
      · have hyz0 := fun w => fits_F b0 b1 c0 c1 w (by omega) (by omega) (by omega) (by omega) false (by
          rcases Nat.lt_or_ge c0 b0 with h | h
          · rw [decide_eq_false (by omega)]; rfl
          · rw [decide_eq_true h, decide_eq_false (fun c => g2 ⟨h, c⟩)]; rfl)
        have HYZ := Lib.hid hyz0
        clear hyz0 g0 g1 g2
        have hrow : ∀ i, i < [(F a0, F a1), (F b0, F b1)].length → (W.alloc (.cells #[.complex .f64 (F a0) (F a1), .complex .f64 (F b0) (F b1)] 24)).cell? ⟨W.heap.size, 0 + i, none⟩ = some (.complex .f64 ([(F a0, F a1), (F b0, F b1)].getD i (0, 0)).1 ([(F a0, F a1), (F b0, F b1)].getD i (0, 0)).2) := by
          intro i hi
          rw [Nat.zero_add, World.cell?_alloc_at _ _ _ _ rfl]
          match i, hi with
          | 0, _ => rfl
          | 1, _ => rfl
        have HROW := Lib.hid hrow
        have hz := hcw.size
        clear hrow
        go_wp2_with (first | (go_at_call 16; with_reducible refine (HXY.out _).mono ?_; rintro e w' ⟨rfl, rfl⟩) | (go_at_call 16; with_reducible refine (HYZ.out _).mono ?_; rintro e w' ⟨rfl, rfl⟩) | (go_at_call 16; with_reducible refine (HXX.out _).mono ?_; rintro e w' ⟨rfl, rfl⟩) | (go_at_call 16; with_reducible refine (HZX.out _).mono ?_; rintro e w' ⟨rfl, rfl⟩) | (go_at_call 16; with_reducible refine (HXS.out _).mono ?_; rintro e w' ⟨rfl, rfl⟩) | (go_at_call 15; refine (HS.out _ _ HROW.out).mono ?_; rintro e w' ⟨rfl, rfl⟩))
        go_ret
        exact ⟨rfl, hcw.alloc hz _⟩
    · have d0 : (a0 : Int) ≤ (b0 : Int) := by omega
      have d1 : ¬ (a1 : Int) ≤ (b1 : Int) := by omega
      have hxy0 := fun w => fits_F a0 a1 b0 b1 w (by omega) (by omega) (by omega) (by omega) false (by rw [decide_eq_true g0, decide_eq_false g1]; rfl)
      have HXY := Lib.hid hxy0
      clear hxy0
      have e1 : decide (a1 ≤ b1) = false := decide_eq_false g1
      go_quiet ((go_at_call 16; exact Calls.quiet_of_same (HXY.out _)))
      have hcw : Below w.heap.size w ((((w.alloc (.cells #[.int .i64 a0, .int .i64 a1] 35)).alloc (.cells #[.int .i64 b0, .int .i64 b1] 35)).alloc (.cells #[.int .i64 c0, .int .i64 c1] 35)).drewN nq) := below_drewN (below3 _ _ _ _) _
      generalize ((((w.alloc (.cells #[.int .i64 a0, .int .i64 a1] 35)).alloc (.cells #[.int .i64 b0, .int .i64 b1] 35)).alloc (.cells #[.int .i64 c0, .int .i64 c1] 35)).drewN nq) = W at *
      clear d0 d1 e1 g0 g1
      have hrow : ∀ i, i < [(F a0, F a1), (F b0, F b1)].length → (W.alloc (.cells #[.complex .f64 (F a0) (F a1), .complex .f64 (F b0) (F b1)] 24)).cell? ⟨W.heap.size, 0 + i, none⟩ = some (.complex .f64 ([(F a0, F a1), (F b0, F b1)].getD i (0, 0)).1 ([(F a0, F a1), (F b0, F b1)].getD i (0, 0)).2) := by
        intro i hi
        rw [Nat.zero_add, World.cell?_alloc_at _ _ _ _ rfl]
        match i, hi with
        | 0, _ => rfl
        | 1, _ => rfl
      have HROW := Lib.hid hrow
      have hz := hcw.size
      clear hrow
      go_wp2_with (first | (go_at_call 16; with_reducible refine (HXY.out _).mono ?_; rintro e w' ⟨rfl, rfl⟩) | (go_at_call 16; with_reducible refine (HXX.out _).mono ?_; rintro e w' ⟨rfl, rfl⟩) | (go_at_call 16; with_reducible refine (HZX.out _).mono ?_; rintro e w' ⟨rfl, rfl⟩) | (go_at_call 16; with_reducible refine (HXS.out _).mono ?_; rintro e w' ⟨rfl, rfl⟩) | (go_at_call 15; refine (HS.out _ _ HROW.out).mono ?_; rintro e w' ⟨rfl, rfl⟩))
      go_ret
      exact ⟨rfl, hcw.alloc hz _⟩
  · have d0 : ¬ (a0 : Int) ≤ (b0 : Int) := by omega
    have e0 : decide (a0 ≤ b0) = false := decide_eq_false g0
    have hxy0 := fun w => fits_F a0 a1 b0 b1 w (by omega) (by omega) (by omega) (by omega) false (by rw [decide_eq_false g0]; rfl)
    have HXY := Lib.hid hxy0
    clear hxy0
    have e1 : decide ((a0 : Int) ≤ (b0 : Int)) = false := decide_eq_false d0
    go_quiet ((go_at_call 16; exact Calls.quiet_of_same (HXY.out _)))
    have hcw : Below w.heap.size w ((((w.alloc (.cells #[.int .i64 a0, .int .i64 a1] 35)).alloc (.cells #[.int .i64 b0, .int .i64 b1] 35)).alloc (.cells #[.int .i64 c0, .int .i64 c1] 35)).drewN nq) := below_drewN (below3 _ _ _ _) _
    generalize ((((w.alloc (.cells #[.int .i64 a0, .int .i64 a1] 35)).alloc (.cells #[.int .i64 b0, .int .i64 b1] 35)).alloc (.cells #[.int .i64 c0, .int .i64 c1] 35)).drewN nq) = W at *
    clear d0 e0 e1 g0
    have hrow : ∀ i, i < [(F a0, F a1), (F b0, F b1)].length → (W.alloc (.cells #[.complex .f64 (F a0) (F a1), .complex .f64 (F b0) (F b1)] 24)).cell? ⟨W.heap.size, 0 + i, none⟩ = some (.complex .f64 ([(F a0, F a1), (F b0, F b1)].getD i (0, 0)).1 ([(F a0, F a1), (F b0, F b1)].getD i (0, 0)).2) := by
      intro i hi
      rw [Nat.zero_add, World.cell?_alloc_at _ _ _ _ rfl]
      match i, hi with
      | 0, _ => rfl
      | 1, _ => rfl
    have HROW := Lib.hid hrow
    have hz := hcw.size
    clear hrow
    go_wp2_with (first | (go_at_call 16; with_reducible refine (HXY.out _).mono ?_; rintro e w' ⟨rfl, rfl⟩) | (go_at_call 16; with_reducible refine (HXX.out _).mono ?_; rintro e w' ⟨rfl, rfl⟩) | (go_at_call 16; with_reducible refine (HZX.out _).mono ?_; rintro e w' ⟨rfl, rfl⟩) | (go_at_call 16; with_reducible refine (HXS.out _).mono ?_; rintro e w' ⟨rfl, rfl⟩) | (go_at_call 15; refine (HS.out _ _ HROW.out).mono ?_; rintro e w' ⟨rfl, rfl⟩))
    go_ret
    exact ⟨rfl, hcw.alloc hz _⟩

set_option maxHeartbeats 400000 in
theorem tollRooms_out (a0 a1 b0 b1 c0 c1 : Int) (w : World) (h : ¬ (okB a0 a1 = true ∧ okB b0 b1 = true ∧ okB c0 c1 = true)) :
    Calls Try.prog 5 #[.agg #[.int .i64 a0, .int .i64 a1], .agg #[.int .i64 b0, .int .i64 b1], .agg #[.int .i64 c0, .int .i64 c1]] w fun x w' => x = .returned (.bool true) ∧ Below w.heap.size w w' := by
  rcases ha : okB a0 a1 with _ | _
  · clear h
    go_enter Try.func5, Try.ntmps5
    go_wp2_with (first | (go_at_call 9; refine (alive_any _).mono ?_; rintro e w' ⟨rfl, rfl⟩) | (go_at_call 10; refine (of_any _ _ _).mono ?_; rintro e w' ⟨rfl, rfl⟩))
    go_ret
    exact ⟨rfl, below3 _ _ _ _⟩
  · rcases hb : okB b0 b1 with _ | _
    · clear h
      go_enter Try.func5, Try.ntmps5
      go_wp2_with (first | (go_at_call 9; refine (alive_any _).mono ?_; rintro e w' ⟨rfl, rfl⟩) | (go_at_call 10; refine (of_any _ _ _).mono ?_; rintro e w' ⟨rfl, rfl⟩))
      go_ret
      exact ⟨rfl, below3 _ _ _ _⟩
    · have hc : okB c0 c1 = false := by
        rcases hc : okB c0 c1 with _ | _
        · rfl
        · exact absurd ⟨ha, hb, hc⟩ h
      clear h
      go_enter Try.func5, Try.ntmps5
      go_wp2_with (first | (go_at_call 9; refine (alive_any _).mono ?_; rintro e w' ⟨rfl, rfl⟩) | (go_at_call 10; refine (of_any _ _ _).mono ?_; rintro e w' ⟨rfl, rfl⟩))
      go_ret
      exact ⟨rfl, below3 _ _ _ _⟩

theorem arr_two {v : Value} {l : List Int} (h : ArrR (Value.int .i64) 2 v l) : ∃ x y, v = .agg #[.int .i64 x, .int .i64 y] := by
  obtain ⟨rfl, hl⟩ := h
  match l, hl with
  | [x, y], _ => exact ⟨x, y, rfl⟩

theorem tollRooms_walk (v0 : Value) (l0 : List Int) (r0 : ArrR (Value.int .i64) 2 v0 l0) (q0 : ∀ y ∈ l0, (Lit.int .i64 y).wf = true) (v1 : Value) (l1 : List Int) (r1 : ArrR (Value.int .i64) 2 v1 l1) (q1 : ∀ y ∈ l1, (Lit.int .i64 y).wf = true)
    (v2 : Value) (l2 : List Int) (r2 : ArrR (Value.int .i64) 2 v2 l2) (q2 : ∀ y ∈ l2, (Lit.int .i64 y).wf = true) (w : World) :
    Calls Try.prog 5 #[v0, v1, v2] w fun x w' => x = .returned (.bool true) ∧ Below w.heap.size w w' := by
  obtain ⟨a0, a1, rfl⟩ := arr_two r0
  obtain ⟨b0, b1, rfl⟩ := arr_two r1
  obtain ⟨c0, c1, rfl⟩ := arr_two r2
  by_cases h : okB a0 a1 = true ∧ okB b0 b1 = true ∧ okB c0 c1 = true
  · obtain ⟨⟨h0, h1⟩, h2, h3⟩ := okB_bd h.1
    obtain ⟨⟨h4, h5⟩, h6, h7⟩ := okB_bd h.2.1
    obtain ⟨⟨h8, h9⟩, h10, h11⟩ := okB_bd h.2.2
    obtain ⟨a0, rfl⟩ := Int.eq_ofNat_of_zero_le h0
    obtain ⟨a1, rfl⟩ := Int.eq_ofNat_of_zero_le h2
    obtain ⟨b0, rfl⟩ := Int.eq_ofNat_of_zero_le h4
    obtain ⟨b1, rfl⟩ := Int.eq_ofNat_of_zero_le h6
    obtain ⟨c0, rfl⟩ := Int.eq_ofNat_of_zero_le h8
    obtain ⟨c1, rfl⟩ := Int.eq_ofNat_of_zero_le h10
    exact tollRooms_in a0 a1 b0 b1 c0 c1 w h1 h3 h5 h7 h9 h11
  · exact tollRooms_out a0 a1 b0 b1 c0 c1 w h

end Go.Proofs.Ytdhhkhcgbgofoaa
