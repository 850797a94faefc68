/-
  The walks of sha's consts and begin: the state of nothing.
-/
import Derived.Test.YtnnllficjljjkaaSched
import Derived.Great.Ranges
namespace Go.Proofs.Ytnnllficjljjkaa
open Go.RowKit

/-- The cells of a state. -/
def stF (h : Nat → BitVec 32) (b : Nat → BitVec 8) (n : Nat) (L : BitVec 64) : Nat → Value := fun j =>
  if j < 8 then .int .u32 (U (h j)) else if j < 72 then .int .u32 (U (K256 (j - 8))) else if j < 136 then .int .u8 (B8 (b (j - 72))) else if j = 136 then .int .i64 n else .int .u64 (Q L)
def stRow (h : Nat → BitVec 32) (b : Nat → BitVec 8) (n : Nat) (L : BitVec 64) : Array Value := row 138 (stF h b n L)

theorem words_row (n : Nat) (f : Nat → BitVec 32) : (((List.range n).map fun i => U (f i)).map (Value.int .u32)).toArray = rowU n f := by
  simp [rowU, row]

set_option maxRecDepth 100000 in
set_option maxHeartbeats 400000 in
theorem consts_any (w : World) : Calls Try.prog 25 #[] w fun e w' => e = .returned (.agg (rowU 64 K256)) ∧ Below w.heap.size w w' := by
  have HN := Lib.hid (show (Try.prog.info? 46).map (·.size) = some (rowU 64 K256).size by rw [size64, rowU_size])
  have HW := Lib.hid (words_row 64 K256)
  go_enter Try.func25, Try.ntmps25
  go_wp2_with (first | (with_reducible refine wpList_alloc_row rfl 46 rfl 64 _ info64 ?_) | (refine wpList_buildFlatArrTo rfl 46 44 64 _ rfl .u32 ((List.range 64).map fun i => U (K256 i)) _ rfl Try.underlying46 (by kernel_rfl) (by kernel_rfl) (by kernel_rfl) ?_; rw [HW.out]) | (with_reducible refine wpList_store_rowTo rfl 46 _ _ rfl rfl w.heap.size (rowU 64 K256) rfl rfl 46 _ (heap_alloc_new _ _) HN.out (by rw [row_size, rowU_size]) (rowU_oneCell _ _) ?_))
  refine bodyPost_ret (results_cell_row rfl _ _ w.heap.size 46 (rowU 64 K256) (0, 0) _ rfl (heap_setRow_at (heap_alloc_new _ _)) Try.underlying46 rfl HN.out) rfl ?_
  exact ⟨rfl, below_setRow ((Below.refl _ _).alloc (Nat.le_refl _) _) (Nat.le_refl _) _⟩

set_option maxRecDepth 100000 in
set_option maxHeartbeats 400000 in
theorem begin_any (w : World) : Calls Try.prog 18 #[] w fun e w' => ∃ sb, e = .returned (.pointer (some ⟨sb, 0, none⟩)) ∧ w.heap.size ≤ sb ∧ w'.heap[sb]? = some (.cells (stRow H256 (fun _ => 0) 0 0) 50 (0, 0)) ∧ Below w.heap.size w w' := by
  have HW := Lib.hid (words_row 8 H256)
  go_enter Try.func18, Try.ntmps18
  go_wp2_with (first | (refine wpList_buildFlatArrTo rfl 45 44 8 _ rfl .u32 ((List.range 8).map fun i => U (H256 i)) _ rfl Try.underlying45 (by kernel_rfl) (by kernel_rfl) (by kernel_rfl) ?_; rw [HW.out]) | (go_at_call 25; refine (consts_any _).mono ?_; rintro e w1 ⟨rfl, hb⟩) | (refine wpList_buildTo rfl 50 _ rfl _ rfl (stRow H256 (fun _ => 0) 0 0) (by kernel_rfl) ?_) | (refine Great.wpList_boxTo rfl 50 _ rfl _ rfl _ rfl (stRow H256 (fun _ => 0) 0 0) rfl ?_))
  go_ret
  exact ⟨w1.heap.size, rfl, hb.size, heap_alloc_new _ _, hb.alloc hb.size _⟩

end Go.Proofs.Ytnnllficjljjkaa
