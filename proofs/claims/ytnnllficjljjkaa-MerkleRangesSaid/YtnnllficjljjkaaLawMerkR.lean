/-
  The walk of the law MerkleRanges.
-/
import Derived.Test.YtnnllficjljjkaaMerkA
namespace Go.Proofs.Ytnnllficjljjkaa
open Go.RowKit
set_option linter.unusedVariables false
set_option linter.unusedSimpArgs false

set_option maxRecDepth 100000 in
set_option maxHeartbeats 2000000 in
theorem merkleRanges_any (n i : Int) (f : Nat → BitVec 8) (a : Option Addr) (L c : Nat) (w : World) :
    Calls Try.prog 7 #[.int .i64 n, .int .i64 i, .agg (rowB 32 f), .slice a L c] w fun e w' => e = .returned (.bool true) ∧ Below w.heap.size w w' := by
  have HB0 := Lib.hid (show Below w.heap.size w (w.alloc (.cells (rowB 32 f) 25)) from below_allocS (Below.refl _ _) _)
  have HG0 := Lib.hid (show (w.alloc (.cells (rowB 32 f) 25)).heap[w.heap.size]? = some (.cells (rowB 32 f) 25 (0, 0)) from heap_alloc_new _ _)
  have HZ := Lib.hid (show (Try.prog.info? 25).map (·.size) = some (rowB 32 f).size by rw [size32, rowB_size])
  by_cases hL : 100 < L
  · have hz1 : ((100 : Int) < (L : Int)) = True := eq_true (by omega)
    clear hL
    go_enter Try.func7, Try.ntmps7
    go_wp2_with (first
      | (go_at_call 12; refine (alive15_any _).mono ?_; rintro e w1 ⟨rfl, hb1⟩; have HB1 := Lib.hid hb1; have HG1 := Lib.hid ((hb1.block _ (Array.getElem?_eq_some_iff.1 HG0.out).1).trans HG0.out); clear hb1)
      | ((with_reducible show wpList _ _ _ (⟨_, .load 25 _, _, _, _, _⟩ :: _) _ _); refine wpList_load_row rfl 25 _ rfl w.heap.size rfl 25 (rowB 32 f) (0, 0) _ HG1.out Try.underlying25 rfl HZ.out ?_)
      | (go_at_call 15; refine (check_out f n i _ none 0 0 _ (.inl (by omega))).mono ?_; rintro e w2 ⟨rfl, hb2⟩))
    go_ret
    exact ⟨rfl, below_keep HB0.out HB1.out⟩
  · have hz1 : ((100 : Int) < (L : Int)) = False := eq_false (by omega)
    clear hL
    by_cases h0 : i < 0
    · have h1 : ¬ 0 ≤ i := by omega
      go_enter Try.func7, Try.ntmps7
      go_wp2_with (first
        | (go_at_call 12; refine (alive15_any _).mono ?_; rintro e w1 ⟨rfl, hb1⟩; have HB1 := Lib.hid hb1; have HG1 := Lib.hid ((hb1.block _ (Array.getElem?_eq_some_iff.1 HG0.out).1).trans HG0.out); clear hb1)
        | ((with_reducible show wpList _ _ _ (⟨_, .load 25 _, _, _, _, _⟩ :: _) _ _); refine wpList_load_row rfl 25 _ rfl w.heap.size rfl 25 (rowB 32 f) (0, 0) _ HG1.out Try.underlying25 rfl HZ.out ?_)
        | (go_at_call 15; refine (check_out f n i _ none 0 0 _ (.inr (.inl h0))).mono ?_; rintro e w2 ⟨rfl, hb2⟩))
      go_ret
      exact ⟨rfl, below_keep HB0.out (below_keep HB1.out hb2)⟩
    · have h1 : 0 ≤ i := by omega
      clear h0
      by_cases h2 : n ≤ i
      · have h3 : ¬ i < n := by omega
        go_enter Try.func7, Try.ntmps7
        go_wp2_with (first
          | (go_at_call 12; refine (alive15_any _).mono ?_; rintro e w1 ⟨rfl, hb1⟩; have HB1 := Lib.hid hb1; have HG1 := Lib.hid ((hb1.block _ (Array.getElem?_eq_some_iff.1 HG0.out).1).trans HG0.out); clear hb1)
          | ((with_reducible show wpList _ _ _ (⟨_, .load 25 _, _, _, _, _⟩ :: _) _ _); refine wpList_load_row rfl 25 _ rfl w.heap.size rfl 25 (rowB 32 f) (0, 0) _ HG1.out Try.underlying25 rfl HZ.out ?_)
          | (go_at_call 15; refine (check_out f n i _ none 0 0 _ (.inr (.inr h2))).mono ?_; rintro e w2 ⟨rfl, hb2⟩))
        go_ret
        exact ⟨rfl, below_keep HB0.out (below_keep HB1.out hb2)⟩
      · have h3 : i < n := by omega
        clear h2
        by_cases h4 : 1048576 < n
        · have h5 : ¬ n ≤ 1048576 := by omega
          go_enter Try.func7, Try.ntmps7
          go_wp2_with (first
            | (go_at_call 12; refine (alive15_any _).mono ?_; rintro e w1 ⟨rfl, hb1⟩; have HB1 := Lib.hid hb1; have HG1 := Lib.hid ((hb1.block _ (Array.getElem?_eq_some_iff.1 HG0.out).1).trans HG0.out); clear hb1)
            | ((with_reducible show wpList _ _ _ (⟨_, .load 25 _, _, _, _, _⟩ :: _) _ _); refine wpList_load_row rfl 25 _ rfl w.heap.size rfl 25 (rowB 32 f) (0, 0) _ HG1.out Try.underlying25 rfl HZ.out ?_)
            | (go_at_call 15; refine (check_out f n i _ none 0 0 _ (.inl h4)).mono ?_; rintro e w2 ⟨rfl, hb2⟩))
          go_ret
          exact ⟨rfl, below_keep HB0.out (below_keep HB1.out hb2)⟩
        · have h5 : n ≤ 1048576 := by omega
          clear h4
          go_enter Try.func7, Try.ntmps7
          go_wp2_with (first
            | (go_at_call 12; refine (alive15_any _).mono ?_; rintro e w1 ⟨rfl, hb1⟩; have HB1 := Lib.hid hb1; have HG1 := Lib.hid ((hb1.block _ (Array.getElem?_eq_some_iff.1 HG0.out).1).trans HG0.out); clear hb1)
            | ((with_reducible show wpList _ _ _ (⟨_, .load 25 _, _, _, _, _⟩ :: _) _ _); refine wpList_load_row rfl 25 _ rfl w.heap.size rfl 25 (rowB 32 f) (0, 0) _ HG1.out Try.underlying25 rfl HZ.out ?_)
            | (go_at_call 15; refine (check_out f n i _ none 0 0 _ (.inl (by omega))).mono ?_; rintro e w2 ⟨rfl, hb2⟩))
          go_ret
          exact ⟨rfl, below_keep HB0.out HB1.out⟩
theorem merkleRanges_walk {w : World} (n : Int) (_hn : (Lit.int .i64 n).wf = true) (i : Int) (_hi : (Lit.int .i64 i).wf = true) (f : Nat → BitVec 8) (v : Value) (l : List (Nat → BitVec 8)) (hv : NRow w v l) (_hq : l.length ≤ maxLen ∧ CapOk v) :
    Calls Try.prog 7 #[.int .i64 n, .int .i64 i, .agg (rowB 32 f), v] w fun e w' => e = .returned (.bool true) ∧ Below w.heap.size w w' := by
  obtain ⟨a, c, rfl⟩ := hv.shape
  exact merkleRanges_any n i f a _ c w

end Go.Proofs.Ytnnllficjljjkaa
