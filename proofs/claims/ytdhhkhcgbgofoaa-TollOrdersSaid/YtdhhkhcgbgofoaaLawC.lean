/-
  The walk of the law TollAdds: it returns true and leaves memory as it was, but for new blocks.
-/
import Derived.Test.YtdhhkhcgbgofoaaLawB
namespace Go.Proofs.Ytdhhkhcgbgofoaa
open Go.RowKit
set_option linter.unusedVariables false

/-! ### the plain law -/
theorem sumE_replicate {e p : Nat} (he : e ≤ 1048576) (hp : p ≤ 1048576) : ∀ n, n ≤ 60 → sumE (List.replicate n (F e, F p)) = (n * e, n * p) := by
  intro n
  induction n with
  | zero => intro _; simp [sumE]
  | succ n ih =>
    intro hn
    have h := parts_F (a := e) (b := p) (by omega) (by omega)
    rw [List.replicate_succ', sumE_snoc, ih (by omega)]
    unfold step
    simp only [h.2.1, h.2.2]
    have h1 : n * e ≤ 60 * 1048576 := Nat.mul_le_mul (by omega) he
    have h2 : n * p ≤ 60 * 1048576 := Nat.mul_le_mul (by omega) hp
    rw [Nat.min_eq_left (by omega), Nat.min_eq_left (by omega), Nat.succ_mul, Nat.succ_mul]

set_option maxRecDepth 100000 in
set_option maxHeartbeats 1000000 in
theorem tollAdds_in (e p n : Nat) (w : World) (he : (e : Int) ≤ 1048576) (hp : (p : Int) ≤ 1048576) (hn : (n : Int) ≤ 60) :
    Calls Try.prog 8 #[.int .i64 e, .int .i64 p, .int .i64 n] w fun x w' => x = .returned (.bool true) ∧ Below w.heap.size w w' := by
  obtain ⟨i0, hi0, hz0, hz1, hz2⟩ := info_parts info24
  have hm1 : n * e ≤ 60 * 1048576 := Nat.mul_le_mul (by omega) (by omega)
  have hm2 : n * p ≤ 60 * 1048576 := Nat.mul_le_mul (by omega) (by omega)
  have hsum := sumE_replicate (e := e) (p := p) (by omega) (by omega) n (by omega)
  have HS := Lib.hid (fun v w => sum_any v (List.replicate n (F e, F p)) w (by simp; omega))
  rw [hsum] at HS
  have hpf := parts_F (a := e) (b := p) (by omega) (by omega)
  have hpn := parts_F (a := n * e) (b := n * p) (by omega) (by omega)
  have hok : tmB (F e) (F p) n = true := by
    unfold tmB okB
    rw [hpf.1, hpf.2.1, hpf.2.2, decide_eq_true (by omega), decide_eq_true (by
      have c1 : (e : Int) * n = ((n * e : Nat) : Int) := by rw [Int.natCast_mul, Int.mul_comm]
      have c2 : (p : Int) * n = ((n * p : Nat) : Int) := by rw [Int.natCast_mul, Int.mul_comm]
      rw [c1, c2]; omega)]
    rfl
  have HT0 := fun w => times_any (F e) (F p) n w
  have c1 : (e : Int) * n = ((n * e : Nat) : Int) := by rw [Int.natCast_mul, Int.mul_comm]
  have c2 : (p : Int) * n = ((n * p : Nat) : Int) := by rw [Int.natCast_mul, Int.mul_comm]
  rw [hok, hpf.2.1, hpf.2.2, c1, c2, ofF_yes, ofF_yes] at HT0
  have HT := Lib.hid HT0
  have hfit : 0 < n → fitB (F e) (F p) (F (n * e)) (F (n * p)) = true := by
    intro h0
    unfold fitB
    rw [hpf.1, hpf.2.1, hpf.2.2, hpn.1, hpn.2.1, hpn.2.2, decide_eq_true (Nat.le_mul_of_pos_left _ h0), decide_eq_true (Nat.le_mul_of_pos_left _ h0)]
    rfl
  have HF := Lib.hid hfit
  have ho1 := order_self (n := n * e) (by omega)
  have ho2 := order_self (n := n * p) (by omega)
  have HO := Lib.hid (fun w => of_yes e p w (by omega) (by omega))
  clear hm1 hm2 hsum hpf hpn hok HT0 c1 c2 hfit
  generalize n * e = A at *
  generalize n * p = B at *
  go_enter Try.func8, Try.ntmps8
  go_wp2_with (first | (go_at_call 9; refine (alive_any _).mono ?_; rintro e w' ⟨rfl, rfl⟩) | (go_at_call 10; refine (HO.out _).mono ?_; rintro e w' ⟨rfl, rfl⟩))
  go_loopw [10, 11] (fun v i wr => ∃ k : Nat, k ≤ n ∧ i = .int .i64 k ∧ wr.ownsRow w.heap.size 24 1 v k ((List.replicate k (F e, F p)).map cx) ∧ Below w.heap.size w wr) (fun _ i _ => n - (intOf i).toNat)
  case atStart => exact ⟨0, Nat.zero_le _, rfl, World.ownsRow_nil _ _ _ _, Below.refl _ _⟩
  case round =>
    obtain ⟨k, hk, rfl, hown, hbel⟩ := hrel
    have hsz := hbel.size
    by_cases hlt : k < n
    · have HOWN := Lib.hid hown.lt
      go_wp2_with (at_builtin; refine wpList_append_own _ rfl _ _ 31 rfl w.heap.size 24 i0 _ 1 16 Try.underlying31 hi0 hz0 hz1 hz2 rfl (by decide) u10 k _ rfl (hown.alloc _) ⟨wr.heap.size, 0, none⟩ 1 1 [.complex .f64 (F e) (F p)] rfl rfl ?c1 ?c2 ?c3 ?c4 ?c5 ?_)
      case c1 => exact cell_one_new _ _ _
      case c2 => simp [Value.oneCell']
      case c3 => unfold maxLen; omega
      case c4 => omega
      case c5 => simp; omega
      intro v' w1 hown' hgrow _
      have hbel' := (hbel.alloc hsz (.cells #[.complex .f64 (F e) (F p)] 24)).grown hgrow (by simp; omega) (fun j hj => (HOWN.out j hj).1)
      clear hown hbel hgrow HOWN
      go_wp2
      go_roundw
      case rel =>
        refine ⟨k + 1, by omega, by go_num, ?_, hbel'⟩
        rw [List.replicate_succ', List.map_append, List.map_replicate]; exact hown'
      case measure => simp [intOf]; omega
    · obtain rfl : k = n := by omega
      have hcr := crow_of_own (by simp) hown
      clear hown
      by_cases h0 : k = 0
      · subst h0
        have he0 : ((0 : Nat) : Int) == 0 := by decide
        go_wp2_with (first | (go_at_call 14; refine (HS.out _ _ hcr).mono ?_; rintro e w' ⟨rfl, rfl⟩) | (go_at_call 17; refine (HT.out _).mono ?_; rintro e w' ⟨rfl, rfl⟩))
        go_ret
        exact ⟨rfl, hbel⟩
      · have he0 : ((k : Int) == 0) = false := by simp; omega
        have hf := HF.out (by omega)
        go_wp2_with (first | (go_at_call 14; refine (HS.out _ _ hcr).mono ?_; rintro e w' ⟨rfl, rfl⟩) | (go_at_call 17; refine (HT.out _).mono ?_; rintro e w' ⟨rfl, rfl⟩) | (go_at_call 16; refine (fits_any _ _ _ _ _).mono ?_; rintro e w' ⟨rfl, rfl⟩))
        go_ret
        exact ⟨rfl, hbel⟩

set_option maxHeartbeats 400000 in
theorem tollAdds_out (e p n : Int) (w : World) (h : ¬ (0 ≤ e ∧ 0 ≤ p ∧ e ≤ 1048576 ∧ p ≤ 1048576 ∧ 0 ≤ n ∧ n ≤ 60)) :
    Calls Try.prog 8 #[.int .i64 e, .int .i64 p, .int .i64 n] w fun x w' => x = .returned (.bool true) ∧ w = w' := by
  by_cases h0 : 0 ≤ e
  rotate_left
  · clear h
    go_enter Try.func8, Try.ntmps8
    go_wp2_with (first | (go_at_call 9; refine (alive_any _).mono ?_; rintro e w' ⟨rfl, rfl⟩))
    go_ret
    exact ⟨rfl, rfl⟩
  by_cases h1 : 0 ≤ p
  rotate_left
  · clear h
    go_enter Try.func8, Try.ntmps8
    go_wp2_with (first | (go_at_call 9; refine (alive_any _).mono ?_; rintro e w' ⟨rfl, rfl⟩))
    go_ret
    exact ⟨rfl, rfl⟩
  by_cases h2 : e ≤ 1048576
  rotate_left
  · clear h
    go_enter Try.func8, Try.ntmps8
    go_wp2_with (first | (go_at_call 9; refine (alive_any _).mono ?_; rintro e w' ⟨rfl, rfl⟩))
    go_ret
    exact ⟨rfl, rfl⟩
  by_cases h3 : p ≤ 1048576
  rotate_left
  · clear h
    go_enter Try.func8, Try.ntmps8
    go_wp2_with (first | (go_at_call 9; refine (alive_any _).mono ?_; rintro e w' ⟨rfl, rfl⟩))
    go_ret
    exact ⟨rfl, rfl⟩
  by_cases h4 : 0 ≤ n
  rotate_left
  · clear h
    go_enter Try.func8, Try.ntmps8
    go_wp2_with (first | (go_at_call 9; refine (alive_any _).mono ?_; rintro e w' ⟨rfl, rfl⟩))
    go_ret
    exact ⟨rfl, rfl⟩
  by_cases h5 : n ≤ 60
  rotate_left
  · clear h
    go_enter Try.func8, Try.ntmps8
    go_wp2_with (first | (go_at_call 9; refine (alive_any _).mono ?_; rintro e w' ⟨rfl, rfl⟩))
    go_ret
    exact ⟨rfl, rfl⟩
  exact absurd ⟨h0, h1, h2, h3, h4, h5⟩ h

theorem tollAdds_walk (e : Int) (we : (Lit.int .i64 e).wf = true) (p : Int) (wp : (Lit.int .i64 p).wf = true) (n : Int) (wn : (Lit.int .i64 n).wf = true) (w : World) :
    Calls Try.prog 8 #[.int .i64 e, .int .i64 p, .int .i64 n] w fun x w' => x = .returned (.bool true) ∧ Below w.heap.size w w' := by
  by_cases h : 0 ≤ e ∧ 0 ≤ p ∧ e ≤ 1048576 ∧ p ≤ 1048576 ∧ 0 ≤ n ∧ n ≤ 60
  · obtain ⟨h0, h1, h2, h3, h4, h5⟩ := h
    obtain ⟨e, rfl⟩ := Int.eq_ofNat_of_zero_le h0
    obtain ⟨p, rfl⟩ := Int.eq_ofNat_of_zero_le h1
    obtain ⟨n, rfl⟩ := Int.eq_ofNat_of_zero_le h4
    exact tollAdds_in e p n w h2 h3 h5
  · exact (tollAdds_out e p n w h).mono fun e w' ⟨h1, h2⟩ => ⟨h1, h2 ▸ Below.refl _ _⟩

end Go.Proofs.Ytdhhkhcgbgofoaa
