/-
  The example of the document: the hash of three letters; helpers for lists that a call lays.
-/
import Derived.Test.YtnnllficjljjkaaDoorHelp
import Derived.Lib.SlBytesConst
namespace Go.Proofs.YtnnllficjljjkaaDoor
open Go.RowKit
set_option linter.unusedVariables false

theorem abc_hex : strB (hexB ((List.range 32).map (sha [97, 98, 99]))) = { data := #[98, 97, 55, 56, 49, 54, 98, 102, 56, 102, 48, 49, 99, 102, 101, 97, 52, 49, 52, 49, 52, 48, 100, 101, 53, 100, 97, 101, 50, 50, 50, 51, 98, 48, 48, 51, 54, 49, 97, 51, 57, 54, 49, 55, 55, 97, 57, 99, 98, 52, 49, 48, 102, 102, 54, 49, 102, 50, 48, 48, 49, 53, 97, 100] } := by
  rw [num_eval _ _ abc_blocks]
  decide +kernel

set_option maxRecDepth 100000 in
set_option maxHeartbeats 400000 in
theorem alive5_any (w : World) : Calls Tryd.prog 21 #[] w fun e w' => e = .returned (.bool true) ∧ Below w.heap.size w w' := by
  have kc := fun (w : World) (C : Array Value) (n c : Nat) => Lib.run_convert_bytes_const (P := Tryd.prog) w 25 5 C n c Tryd.underlying25 Tryd.underlying5
  have HSZ := Lib.hid (show (Tryd.prog.info? 28).map (·.size) = some (rowB 32 (sha [97, 98, 99])).size by rw [size32, rowB_size])
  go_enter Tryd.func21, Tryd.ntmps21
  go_wp2_with (first
    | (go_at_call 25; refine (sum_any _ [[97, 98, 99]] _ ?a1 (by decide) (by decide)).mono ?_; rotate_left; rintro e w1 ⟨rfl, hb1⟩)
    | (with_reducible refine wpList_alloc_row rfl 28 rfl 32 _ info32 ?_)
    | ((with_reducible show wpList _ _ _ (⟨_, .store 28 _ _, _, _, _, _⟩ :: _) _ _); refine wpList_store_rowTo rfl 28 _ _ rfl rfl _ (rowB 32 (sha [97, 98, 99])) rfl rfl 28 _ (heap_alloc_new _ _) HSZ.out (by rw [row_size, rowB_size]) (rowB_oneCell _ _) ?_)
    | (go_at_call 50; refine (hex_any _ ((List.range 32).map (sha [97, 98, 99])) _ ?a2 (by simp)).mono ?_; rotate_left; rintro e w2 ⟨rfl, hb2⟩; rw [abc_hex]))
  case a1 => exact brows_one (heap_alloc2_new _ _ _) (brow_mk [97, 98, 99] (heap_alloc2_old _ _ _))
  case a2 => exact brow_num (heap_setRow_at (heap_alloc_new _ _))
  go_ret
  have hz := hb1.size
  simp at hz
  refine ⟨by simp, ?_⟩
  refine Below.trans ?_ (hb2.mono (by simp [World.setRow]; omega))
  refine below_setRow (Below.alloc ?_ (by omega) _) (by omega) _
  exact ((((Below.refl _ _).alloc (Nat.le_refl _) _).alloc (by simp) _)).trans (hb1.mono (by simp; omega))

end Go.Proofs.YtnnllficjljjkaaDoor
