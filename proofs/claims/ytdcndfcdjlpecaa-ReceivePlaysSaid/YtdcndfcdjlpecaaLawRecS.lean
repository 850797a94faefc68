/-
  The walk of the law ReceivePlays: all cases.
-/
import Derived.Test.YtdcndfcdjlpecaaLawRecQ
import Derived.Test.YtdcndfcdjlpecaaLawRecR
namespace Go.Proofs.Ytdcndfcdjlpecaa
open Go.RowKit
set_option linter.unusedVariables false
set_option linter.unusedSimpArgs false

set_option maxHeartbeats 1000000 in
theorem receivePlays_out_a (a a2 : Option Addr) (L c D c2 : Nat) (n : Int) (w : World) (h1 : 300 < n) (h2 : n < 4000) :
    Calls Try.prog 8 #[.int .i64 n, .slice a L c, .slice a2 D c2] w fun e w' => e = .returned (.bool true) ∧ Below w.heap.size w w' := by
  go_enter Try.func8, Try.ntmps8
  go_wp2_with (go_at_call 16; refine (alive23_any _).mono ?_; rintro e w1 ⟨rfl, hb1⟩)
  go_ret
  exact ⟨rfl, hb1⟩
set_option maxHeartbeats 1000000 in
theorem receivePlays_out_b (a a2 : Option Addr) (L c D c2 : Nat) (n : Int) (w : World) (h1 : 5000 < n) (h2 : n < 1048576) :
    Calls Try.prog 8 #[.int .i64 n, .slice a L c, .slice a2 D c2] w fun e w' => e = .returned (.bool true) ∧ Below w.heap.size w w' := by
  have h0 : 300 < n := by omega
  have h3 : ¬ n < 4000 := by omega
  go_enter Try.func8, Try.ntmps8
  go_wp2_with (go_at_call 16; refine (alive23_any _).mono ?_; rintro e w1 ⟨rfl, hb1⟩)
  go_ret
  exact ⟨rfl, hb1⟩
set_option maxHeartbeats 1000000 in
theorem receivePlays_out_low (a a2 : Option Addr) (L c D c2 : Nat) (n : Int) (w : World) (hn : n ≤ 300) (h : 200 < L ∨ D < L) :
    Calls Try.prog 8 #[.int .i64 n, .slice a L c, .slice a2 D c2] w fun e w' => e = .returned (.bool true) ∧ Below w.heap.size w w' := by
  by_cases h1 : 200 < L
  · have hz1 : ((200 : Int) < (L : Int)) = True := eq_true (by omega)
    clear h h1
    go_enter Try.func8, Try.ntmps8
    go_wp2_with (go_at_call 16; refine (alive23_any _).mono ?_; rintro e w1 ⟨rfl, hb1⟩)
    go_ret
    exact ⟨rfl, hb1⟩
  · have hz1 : ((200 : Int) < (L : Int)) = False := eq_false (by omega)
    have hz2 : (D : Int) < (L : Int) := by omega
    clear h h1
    go_enter Try.func8, Try.ntmps8
    go_wp2_with (go_at_call 16; refine (alive23_any _).mono ?_; rintro e w1 ⟨rfl, hb1⟩)
    go_ret
    exact ⟨rfl, hb1⟩
set_option maxHeartbeats 1000000 in
theorem receivePlays_out_mid (a a2 : Option Addr) (L c D c2 : Nat) (n : Int) (w : World) (hn0 : 4000 ≤ n) (hn1 : n ≤ 5000) (h : 200 < L ∨ D < L) :
    Calls Try.prog 8 #[.int .i64 n, .slice a L c, .slice a2 D c2] w fun e w' => e = .returned (.bool true) ∧ Below w.heap.size w w' := by
  have h0 : 300 < n := by omega
  by_cases h1 : 200 < L
  · have hz1 : ((200 : Int) < (L : Int)) = True := eq_true (by omega)
    clear h h1
    go_enter Try.func8, Try.ntmps8
    go_wp2_with (go_at_call 16; refine (alive23_any _).mono ?_; rintro e w1 ⟨rfl, hb1⟩)
    go_ret
    exact ⟨rfl, hb1⟩
  · have hz1 : ((200 : Int) < (L : Int)) = False := eq_false (by omega)
    have hz2 : (D : Int) < (L : Int) := by omega
    clear h h1
    go_enter Try.func8, Try.ntmps8
    go_wp2_with (go_at_call 16; refine (alive23_any _).mono ?_; rintro e w1 ⟨rfl, hb1⟩)
    go_ret
    exact ⟨rfl, hb1⟩
set_option maxHeartbeats 1000000 in
theorem receivePlays_out_high (a a2 : Option Addr) (L c D c2 : Nat) (n : Int) (w : World) (hn : 1048576 ≤ n) (h : 200 < L ∨ D < L) :
    Calls Try.prog 8 #[.int .i64 n, .slice a L c, .slice a2 D c2] w fun e w' => e = .returned (.bool true) ∧ Below w.heap.size w w' := by
  have h0 : 5000 < n := by omega
  have h3 : 300 < n := by omega
  have h4 : ¬ n < 4000 := by omega
  by_cases h1 : 200 < L
  · have hz1 : ((200 : Int) < (L : Int)) = True := eq_true (by omega)
    clear h h1
    go_enter Try.func8, Try.ntmps8
    go_wp2_with (go_at_call 16; refine (alive23_any _).mono ?_; rintro e w1 ⟨rfl, hb1⟩)
    go_ret
    exact ⟨rfl, hb1⟩
  · have hz1 : ((200 : Int) < (L : Int)) = False := eq_false (by omega)
    have hz2 : (D : Int) < (L : Int) := by omega
    clear h h1
    go_enter Try.func8, Try.ntmps8
    go_wp2_with (go_at_call 16; refine (alive23_any _).mono ?_; rintro e w1 ⟨rfl, hb1⟩)
    go_ret
    exact ⟨rfl, hb1⟩
theorem receivePlays_walk {w : World} (n : Int) (_hn : (Lit.int .i64 n).wf = true) (v : Value) (l : List Int) (hv : IRow w v l) (_hw : ∀ x ∈ l, -9223372036854775808 ≤ x ∧ x ≤ 9223372036854775807) (vb : Value) (dl : List Bool) (hvb : LRow w vb dl) (_ht : True) :
    Calls Try.prog 8 #[.int .i64 n, v, vb] w fun e w' => e = .returned (.bool true) ∧ Below w.heap.size w w' := by
  obtain ⟨a, c, rfl⟩ := hv.shape
  obtain ⟨a2, c2, rfl⟩ := hvb.shape
  by_cases h1 : 300 < n ∧ n < 4000
  · exact receivePlays_out_a a a2 _ c _ c2 n w h1.1 h1.2
  · by_cases h2 : 5000 < n ∧ n < 1048576
    · exact receivePlays_out_b a a2 _ c _ c2 n w h2.1 h2.2
    · by_cases h : 200 < l.length ∨ dl.length < l.length
      · by_cases h3 : n ≤ 300
        · exact receivePlays_out_low a a2 _ c _ c2 n w h3 h
        · by_cases h4 : n ≤ 5000
          · exact receivePlays_out_mid a a2 _ c _ c2 n w (by omega) h4 h
          · exact receivePlays_out_high a a2 _ c _ c2 n w (by omega) h
      · by_cases h3 : n ≤ 300
        · exact receivePlays_low a a2 c c2 l dl n w hv hvb (by omega) (by omega) h3
        · by_cases h4 : n ≤ 5000
          · exact receivePlays_mid a a2 c c2 l dl n w hv hvb (by omega) (by omega) ⟨by omega, h4⟩
          · exact receivePlays_high a a2 c c2 l dl n w hv hvb (by omega) (by omega) (by omega)

end Go.Proofs.Ytdcndfcdjlpecaa
