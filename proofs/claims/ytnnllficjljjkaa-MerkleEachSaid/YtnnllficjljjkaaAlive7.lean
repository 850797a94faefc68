/-
  The example of the document: a sum under a key.
-/
import Derived.Test.YtnnllficjljjkaaMac
namespace Go.Proofs.Ytnnllficjljjkaa
open Go.RowKit
set_option linter.unusedVariables false
set_option linter.unusedSimpArgs false

def jefe : List (BitVec 8) := [74, 101, 102, 101]
def doYa : List (BitVec 8) := [119, 104, 97, 116, 32, 100, 111, 32, 121, 97, 32, 119, 97, 110, 116, 32, 102, 111, 114, 32, 110, 111, 116, 104, 105, 110, 103, 63]
theorem jefe_in : blocksL (fun i => (pad (padK jefe 54 ++ doYa)).getD i 0) ((pad (padK jefe 54 ++ doYa)).length / 64) = [0xa2e48586, 0x3d27f9d8, 0x64ac8d80, 0x2432a1ed, 0x477d8c4c, 0x6f349d16, 0xd4e7e917, 0xc629cad7] := by decide +kernel
def jefeIn : Nat → BitVec 8 := outOf fun j => ([0xa2e48586, 0x3d27f9d8, 0x64ac8d80, 0x2432a1ed, 0x477d8c4c, 0x6f349d16, 0xd4e7e917, 0xc629cad7] : List (BitVec 32)).getD j 0
theorem jefe_out : blocksL (fun i => (pad (padK jefe 92 ++ (List.range 32).map jefeIn)).getD i 0) ((pad (padK jefe 92 ++ (List.range 32).map jefeIn)).length / 64) = [0x5bdcc146, 0xbf60754e, 0x6a042426, 0x089575c7, 0x5a003f08, 0x9d273983, 0x9dec58b9, 0x64ec3843] := by decide +kernel
theorem jefe_mac : (List.range 32).map (macS jefe doYa) = (List.range 32).map (outOf fun j => ([0x5bdcc146, 0xbf60754e, 0x6a042426, 0x089575c7, 0x5a003f08, 0x9d273983, 0x9dec58b9, 0x64ec3843] : List (BitVec 32)).getD j 0) := by
  unfold macS
  rw [keyS_short (by decide), num_eval (padK jefe 54 ++ doYa) _ jefe_in]
  exact num_eval (padK jefe 92 ++ (List.range 32).map jefeIn) _ jefe_out
def jefeHex : ByteArray := { data := #[53, 98, 100, 99, 99, 49, 52, 54, 98, 102, 54, 48, 55, 53, 52, 101, 54, 97, 48, 52, 50, 52, 50, 54, 48, 56, 57, 53, 55, 53, 99, 55, 53, 97, 48, 48, 51, 102, 48, 56, 57, 100, 50, 55, 51, 57, 56, 51, 57, 100, 101, 99, 53, 56, 98, 57, 54, 52, 101, 99, 51, 56, 52, 51] }
set_option maxRecDepth 100000 in
theorem jefe_hex : strB (hexB ((List.range 32).map (macS jefe doYa))) = jefeHex := by
  rw [jefe_mac]
  decide +kernel

theorem jefe_cells : (#[.int .u8 74, .int .u8 101, .int .u8 102, .int .u8 101] : Array Value) = (jefe.map fun x => Value.int .u8 (B8 x)).toArray := rfl
theorem doYa_cells : (#[.int .u8 119, .int .u8 104, .int .u8 97, .int .u8 116, .int .u8 32, .int .u8 100, .int .u8 111, .int .u8 32, .int .u8 121, .int .u8 97, .int .u8 32, .int .u8 119, .int .u8 97, .int .u8 110, .int .u8 116, .int .u8 32, .int .u8 102, .int .u8 111, .int .u8 114, .int .u8 32, .int .u8 110, .int .u8 111, .int .u8 116, .int .u8 104, .int .u8 105, .int .u8 110, .int .u8 103, .int .u8 63] : Array Value) = (doYa.map fun x => Value.int .u8 (B8 x)).toArray := rfl
set_option maxRecDepth 100000 in
set_option maxHeartbeats 1000000 in
theorem alive7_any (w : World) : Calls Try.prog 8 #[] w fun e w' => e = .returned (.bool true) ∧ Below w.heap.size w w' := by
  have kc := fun (w : World) (C : Array Value) (n c : Nat) => Lib.run_convert_bytes_const (P := Try.prog) w 22 5 C n c Try.underlying22 Try.underlying5
  have kc2 : ∀ (w : World) (o : Obj) (C : Array Value) (n c : Nat), (convert 22 22 (.slice (some ⟨w.heap.size + 1, 0, none⟩) n c)).run Try.prog ((w.alloc o).alloc (.cells C 5)) = .ok (.slice (some ⟨w.heap.size + 1, 0, none⟩) n c) ((w.alloc o).alloc (.cells C 5 (C.size, C.size + 1))) := fun w o C n c => by
    have := kc (w.alloc o) C n c
    simpa using this
  have HZ := Lib.hid (show (Try.prog.info? 25).map (·.size) = some (rowB 32 (macS jefe doYa)).size by rw [size32, rowB_size])
  go_enter Try.func8, Try.ntmps8
  go_wp2_with fail
  rw [jefe_cells, doYa_cells]
  have HB0 := Lib.hid (show Below w.heap.size w ((w.alloc (.cells (jefe.map fun x => Value.int .u8 (B8 x)).toArray 5 (4, 5))).alloc (.cells (doYa.map fun x => Value.int .u8 (B8 x)).toArray 5 (28, 29))) from below_allocS (below_allocS (Below.refl _ _) _) _)
  have HJ := Lib.hid (show BRow ((w.alloc (.cells (jefe.map fun x => Value.int .u8 (B8 x)).toArray 5 (4, 5))).alloc (.cells (doYa.map fun x => Value.int .u8 (B8 x)).toArray 5 (28, 29))) (.slice (some ⟨w.heap.size, 0, none⟩) 4 4) jefe from (brow_mk jefe (heap_alloc_new _ _)).below (below_allocS (Below.refl _ _) _))
  have HD := Lib.hid (show BRow ((w.alloc (.cells (jefe.map fun x => Value.int .u8 (B8 x)).toArray 5 (4, 5))).alloc (.cells (doYa.map fun x => Value.int .u8 (B8 x)).toArray 5 (28, 29))) (.slice (some ⟨w.heap.size + 1, 0, none⟩) 28 28) doYa from by
    have := brow_mk (c := 28) doYa (heap_alloc_new (w.alloc (.cells (jefe.map fun x => Value.int .u8 (B8 x)).toArray 5 (4, 5))) (.cells (doYa.map fun x => Value.int .u8 (B8 x)).toArray 5 (28, 29)))
    rw [show doYa.length = 28 from rfl] at this
    simpa using this)
  have hz0 : ((w.alloc (.cells (jefe.map fun x => Value.int .u8 (B8 x)).toArray 5 (4, 5))).alloc (.cells (doYa.map fun x => Value.int .u8 (B8 x)).toArray 5 (28, 29))).heap.size = w.heap.size + 1 + 1 := by simp
  generalize hw0 : (w.alloc (.cells (jefe.map fun x => Value.int .u8 (B8 x)).toArray 5 (4, 5))).alloc (.cells (doYa.map fun x => Value.int .u8 (B8 x)).toArray 5 (28, 29)) = w0 at *
  have HW0 := Lib.hid hw0
  clear hw0
  have HBR := Lib.hid (show BRows (w0.alloc (.cells #[.slice (some ⟨w.heap.size + 1, 0, none⟩) 28 28] 22)) (.slice (some ⟨w.heap.size + 1 + 1, 0, none⟩) 1 1) [doYa] from by
    rw [← hz0]
    exact brows_one (heap_alloc_new w0 _) (HD.out.below (below_allocS (Below.refl _ _) _)))
  clear hz0
  refine (mac_any _ _ jefe [doYa] _ (HJ.out.below (below_allocS (Below.refl _ _) _)) HBR.out (by decide) (by decide) (by decide)).mono ?_
  rintro e w1 ⟨rfl, hb1⟩
  rw [show ([doYa] : List (List (BitVec 8))).flatten = doYa from by simp]
  have HB1 := Lib.hid (below_keep (below_allocS HB0.out _) hb1)
  have HH := Lib.hid jefe_hex
  clear hb1 kc kc2
  generalize macS jefe doYa = h at *
  go_wp2_with (first
    | (with_reducible refine wpList_alloc_row rfl 25 rfl 32 _ info32 ?_)
    | ((with_reducible show wpList _ _ _ (⟨_, .store 25 _ _, _, _, _, _⟩ :: _) _ _); refine wpList_store_rowTo rfl 25 _ _ rfl rfl _ (rowB 32 h) rfl rfl 25 _ (heap_alloc_new _ _) HZ.out (by rw [row_size, rowB_size]) (rowB_oneCell _ _) ?_)
    | (go_at_call 17; refine (hex_any _ ((List.range 32).map h) _ (brow_num (heap_setRow_at (heap_alloc_new _ _))) (by simp)).mono ?_; rintro e w2 ⟨rfl, hb2⟩; rw [HH.out]))
  go_ret
  refine ⟨?_, below_keep (below_setRow (below_allocS HB1.out _) HB1.out.size _) hb2⟩
  simp [jefeHex]

end Go.Proofs.Ytnnllficjljjkaa
