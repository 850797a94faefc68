/-
  A row of noughts that a call makes.
-/
import Derived.Test.YtnnllficjljjkaaBytes
import Derived.Deep.OwnRows
import Derived.Laws.OwnMore
namespace Go.Proofs.Ytnnllficjljjkaa
open Go.RowKit

theorem made_row (n : Nat) : madeCells #[Value.int .u8 0] n = rowB n fun _ => 0 := by
  apply Array.ext'
  rw [toList_madeCells_one]
  simp only [rowB, row, List.toList_toArray]
  rw [List.map_const', List.length_range]
  rfl
theorem make_B (n : Nat) (h : n ≤ 1000000000) (w : World) : (Instr.makeSlice 22 (.int .i64 (n : Int)) (.int .i64 (n : Int))).run Try.prog w = .ok (.slice (some ⟨w.heap.size, 0, none⟩) n n) (w.alloc (.cells (rowB n fun _ => 0) 5)) := by
  rw [← made_row]
  exact run_make_row' 22 5 _ 1 Try.underlying22 info_u8 rfl .i64 .i64 n (by omega) (by omega) w

end Go.Proofs.Ytnnllficjljjkaa
