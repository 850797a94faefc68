/-
  The two functions that turn a word round: RotateLeft32 of math/bits at the negative numbers that the program gives, ror of the reference.
-/
import Derived.Test.YtnnllficjljjkaaRows
import Derived.Test.YtnnllficjljjkaaSpec
import Derived.WalkKit
import Derived.Lib.Hide
import Derived.WalkSpells
import Derived.WalkLawsBesides
namespace Go.Proofs.Ytnnllficjljjkaa
open Go.RowKit

theorem rot_val (x : BitVec 32) (n m : Nat) (h : m = 32 - n) : bits .or .u32 (U x * ((2 ^ n : Nat) : Int) % 4294967296) (U x / ((2 ^ m : Nat) : Int)) = U (rotl x n) := by
  subst h; rw [U_shl, U_shr, U_or]; rfl
theorem ror_val (x : BitVec 32) (n m : Nat) (h : m = 32 - n) : bits .or .u32 (U x / ((2 ^ m : Nat) : Int)) (U x * ((2 ^ n : Nat) : Int) % 4294967296) = U (rotl x n) := by
  subst h; rw [U_shl, U_shr, U_or, BitVec.or_comm]; rfl

theorem rot7 (x : BitVec 32) (w : World) : Calls Try.prog 28 #[.int .u32 (U x), .int .i64 (-7)] w fun e w' => e = .returned (.int .u32 (U (rotl x 25))) ∧ w = w' := by
  have hm : bits BinOp.and IntKind.u64 (IntKind.u64.wrap (-7)) 31 = 25 := by decide
  have hb := U_bd x
  obtain ⟨h0, h1⟩ := hb
  have hv := rot_val x 25 7 rfl
  have HV := Lib.hid hv
  clear hv
  go_enter Try.func28, Try.ntmps28
  go_wp2
  go_ret
  exact ⟨congrArg (fun z => Ending.returned (.int .u32 z)) HV.out, rfl⟩


theorem rot18 (x : BitVec 32) (w : World) : Calls Try.prog 28 #[.int .u32 (U x), .int .i64 (-18)] w fun e w' => e = .returned (.int .u32 (U (rotl x 14))) ∧ w = w' := by
  have hm : bits BinOp.and IntKind.u64 (IntKind.u64.wrap (-18)) 31 = 14 := by decide
  have hb := U_bd x
  obtain ⟨h0, h1⟩ := hb
  have hv := rot_val x 14 18 rfl
  have HV := Lib.hid hv
  clear hv
  go_enter Try.func28, Try.ntmps28
  go_wp2
  go_ret
  exact ⟨congrArg (fun z => Ending.returned (.int .u32 z)) HV.out, rfl⟩


theorem rot17 (x : BitVec 32) (w : World) : Calls Try.prog 28 #[.int .u32 (U x), .int .i64 (-17)] w fun e w' => e = .returned (.int .u32 (U (rotl x 15))) ∧ w = w' := by
  have hm : bits BinOp.and IntKind.u64 (IntKind.u64.wrap (-17)) 31 = 15 := by decide
  have hb := U_bd x
  obtain ⟨h0, h1⟩ := hb
  have hv := rot_val x 15 17 rfl
  have HV := Lib.hid hv
  clear hv
  go_enter Try.func28, Try.ntmps28
  go_wp2
  go_ret
  exact ⟨congrArg (fun z => Ending.returned (.int .u32 z)) HV.out, rfl⟩


theorem rot19 (x : BitVec 32) (w : World) : Calls Try.prog 28 #[.int .u32 (U x), .int .i64 (-19)] w fun e w' => e = .returned (.int .u32 (U (rotl x 13))) ∧ w = w' := by
  have hm : bits BinOp.and IntKind.u64 (IntKind.u64.wrap (-19)) 31 = 13 := by decide
  have hb := U_bd x
  obtain ⟨h0, h1⟩ := hb
  have hv := rot_val x 13 19 rfl
  have HV := Lib.hid hv
  clear hv
  go_enter Try.func28, Try.ntmps28
  go_wp2
  go_ret
  exact ⟨congrArg (fun z => Ending.returned (.int .u32 z)) HV.out, rfl⟩


theorem rot6 (x : BitVec 32) (w : World) : Calls Try.prog 28 #[.int .u32 (U x), .int .i64 (-6)] w fun e w' => e = .returned (.int .u32 (U (rotl x 26))) ∧ w = w' := by
  have hm : bits BinOp.and IntKind.u64 (IntKind.u64.wrap (-6)) 31 = 26 := by decide
  have hb := U_bd x
  obtain ⟨h0, h1⟩ := hb
  have hv := rot_val x 26 6 rfl
  have HV := Lib.hid hv
  clear hv
  go_enter Try.func28, Try.ntmps28
  go_wp2
  go_ret
  exact ⟨congrArg (fun z => Ending.returned (.int .u32 z)) HV.out, rfl⟩


theorem rot11 (x : BitVec 32) (w : World) : Calls Try.prog 28 #[.int .u32 (U x), .int .i64 (-11)] w fun e w' => e = .returned (.int .u32 (U (rotl x 21))) ∧ w = w' := by
  have hm : bits BinOp.and IntKind.u64 (IntKind.u64.wrap (-11)) 31 = 21 := by decide
  have hb := U_bd x
  obtain ⟨h0, h1⟩ := hb
  have hv := rot_val x 21 11 rfl
  have HV := Lib.hid hv
  clear hv
  go_enter Try.func28, Try.ntmps28
  go_wp2
  go_ret
  exact ⟨congrArg (fun z => Ending.returned (.int .u32 z)) HV.out, rfl⟩


theorem rot25 (x : BitVec 32) (w : World) : Calls Try.prog 28 #[.int .u32 (U x), .int .i64 (-25)] w fun e w' => e = .returned (.int .u32 (U (rotl x 7))) ∧ w = w' := by
  have hm : bits BinOp.and IntKind.u64 (IntKind.u64.wrap (-25)) 31 = 7 := by decide
  have hb := U_bd x
  obtain ⟨h0, h1⟩ := hb
  have hv := rot_val x 7 25 rfl
  have HV := Lib.hid hv
  clear hv
  go_enter Try.func28, Try.ntmps28
  go_wp2
  go_ret
  exact ⟨congrArg (fun z => Ending.returned (.int .u32 z)) HV.out, rfl⟩


theorem rot2 (x : BitVec 32) (w : World) : Calls Try.prog 28 #[.int .u32 (U x), .int .i64 (-2)] w fun e w' => e = .returned (.int .u32 (U (rotl x 30))) ∧ w = w' := by
  have hm : bits BinOp.and IntKind.u64 (IntKind.u64.wrap (-2)) 31 = 30 := by decide
  have hb := U_bd x
  obtain ⟨h0, h1⟩ := hb
  have hv := rot_val x 30 2 rfl
  have HV := Lib.hid hv
  clear hv
  go_enter Try.func28, Try.ntmps28
  go_wp2
  go_ret
  exact ⟨congrArg (fun z => Ending.returned (.int .u32 z)) HV.out, rfl⟩


theorem rot13 (x : BitVec 32) (w : World) : Calls Try.prog 28 #[.int .u32 (U x), .int .i64 (-13)] w fun e w' => e = .returned (.int .u32 (U (rotl x 19))) ∧ w = w' := by
  have hm : bits BinOp.and IntKind.u64 (IntKind.u64.wrap (-13)) 31 = 19 := by decide
  have hb := U_bd x
  obtain ⟨h0, h1⟩ := hb
  have hv := rot_val x 19 13 rfl
  have HV := Lib.hid hv
  clear hv
  go_enter Try.func28, Try.ntmps28
  go_wp2
  go_ret
  exact ⟨congrArg (fun z => Ending.returned (.int .u32 z)) HV.out, rfl⟩


theorem rot22 (x : BitVec 32) (w : World) : Calls Try.prog 28 #[.int .u32 (U x), .int .i64 (-22)] w fun e w' => e = .returned (.int .u32 (U (rotl x 10))) ∧ w = w' := by
  have hm : bits BinOp.and IntKind.u64 (IntKind.u64.wrap (-22)) 31 = 10 := by decide
  have hb := U_bd x
  obtain ⟨h0, h1⟩ := hb
  have hv := rot_val x 10 22 rfl
  have HV := Lib.hid hv
  clear hv
  go_enter Try.func28, Try.ntmps28
  go_wp2
  go_ret
  exact ⟨congrArg (fun z => Ending.returned (.int .u32 z)) HV.out, rfl⟩


end Go.Proofs.Ytnnllficjljjkaa
