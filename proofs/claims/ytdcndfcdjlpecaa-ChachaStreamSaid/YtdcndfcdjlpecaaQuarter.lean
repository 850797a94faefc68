/-
  The walks of the turned words and of a quarter of a round, of the program and of the document's own.
-/
import Derived.Test.YtdcndfcdjlpecaaCha
import Derived.Test.YtdcndfcdjlpecaaLaws
import Derived.Test.YtdcndfcdjlpecaaRows
import Derived.StillTailTactics
import Derived.Deep.QuietTactic
import Derived.BigQuiet
import Derived.Outline
namespace Go.Proofs.Ytdcndfcdjlpecaa
open Go.RowKit
set_option linter.unusedVariables false
set_option linter.unusedSimpArgs false

theorem rot_val (x : BitVec 32) (n m : Nat) (h : m = 32 - n) : bits .or .u32 (U x * ((2 ^ n : Nat) : Int) % 4294967296) (U x / ((2 ^ m : Nat) : Int)) = U (rotl x n) := by
  subst h; rw [U_shl, U_shr, U_or]; rfl

theorem rot16 (x : BitVec 32) (w : World) : Calls Try.prog 40 #[.int .u32 (U x), .int .i64 16] w fun e w' => e = .returned (.int .u32 (U (rotl x 16))) ∧ w' = w := by
  have hm : bits BinOp.and IntKind.u64 (IntKind.u64.wrap 16) 31 = 16 := by decide
  have hm2 : bits BinOp.and IntKind.u64 16 31 = 16 := by decide
  obtain ⟨h0, h1⟩ := U_bd x
  have HV := Lib.hid (rot_val x 16 16 rfl)
  go_enter Try.func40, Try.ntmps40
  go_wp2
  go_ret
  exact ⟨congrArg (fun z => Ending.returned (.int .u32 z)) HV.out, rfl⟩
theorem rol16 (x : BitVec 32) (w : World) : Calls Try.prog 41 #[.int .u32 (U x), .int .u64 16] w fun e w' => e = .returned (.int .u32 (U (rotl x 16))) ∧ w' = w := by
  obtain ⟨h0, h1⟩ := U_bd x
  have HV := Lib.hid (rot_val x 16 16 rfl)
  go_enter Try.func41, Try.ntmps41
  go_wp2
  go_ret
  exact ⟨congrArg (fun z => Ending.returned (.int .u32 z)) HV.out, rfl⟩

theorem rot12 (x : BitVec 32) (w : World) : Calls Try.prog 40 #[.int .u32 (U x), .int .i64 12] w fun e w' => e = .returned (.int .u32 (U (rotl x 12))) ∧ w' = w := by
  have hm : bits BinOp.and IntKind.u64 (IntKind.u64.wrap 12) 31 = 12 := by decide
  have hm2 : bits BinOp.and IntKind.u64 12 31 = 12 := by decide
  obtain ⟨h0, h1⟩ := U_bd x
  have HV := Lib.hid (rot_val x 12 20 rfl)
  go_enter Try.func40, Try.ntmps40
  go_wp2
  go_ret
  exact ⟨congrArg (fun z => Ending.returned (.int .u32 z)) HV.out, rfl⟩
theorem rol12 (x : BitVec 32) (w : World) : Calls Try.prog 41 #[.int .u32 (U x), .int .u64 12] w fun e w' => e = .returned (.int .u32 (U (rotl x 12))) ∧ w' = w := by
  obtain ⟨h0, h1⟩ := U_bd x
  have HV := Lib.hid (rot_val x 12 20 rfl)
  go_enter Try.func41, Try.ntmps41
  go_wp2
  go_ret
  exact ⟨congrArg (fun z => Ending.returned (.int .u32 z)) HV.out, rfl⟩

theorem rot8 (x : BitVec 32) (w : World) : Calls Try.prog 40 #[.int .u32 (U x), .int .i64 8] w fun e w' => e = .returned (.int .u32 (U (rotl x 8))) ∧ w' = w := by
  have hm : bits BinOp.and IntKind.u64 (IntKind.u64.wrap 8) 31 = 8 := by decide
  have hm2 : bits BinOp.and IntKind.u64 8 31 = 8 := by decide
  obtain ⟨h0, h1⟩ := U_bd x
  have HV := Lib.hid (rot_val x 8 24 rfl)
  go_enter Try.func40, Try.ntmps40
  go_wp2
  go_ret
  exact ⟨congrArg (fun z => Ending.returned (.int .u32 z)) HV.out, rfl⟩
theorem rol8 (x : BitVec 32) (w : World) : Calls Try.prog 41 #[.int .u32 (U x), .int .u64 8] w fun e w' => e = .returned (.int .u32 (U (rotl x 8))) ∧ w' = w := by
  obtain ⟨h0, h1⟩ := U_bd x
  have HV := Lib.hid (rot_val x 8 24 rfl)
  go_enter Try.func41, Try.ntmps41
  go_wp2
  go_ret
  exact ⟨congrArg (fun z => Ending.returned (.int .u32 z)) HV.out, rfl⟩

theorem rot7 (x : BitVec 32) (w : World) : Calls Try.prog 40 #[.int .u32 (U x), .int .i64 7] w fun e w' => e = .returned (.int .u32 (U (rotl x 7))) ∧ w' = w := by
  have hm : bits BinOp.and IntKind.u64 (IntKind.u64.wrap 7) 31 = 7 := by decide
  have hm2 : bits BinOp.and IntKind.u64 7 31 = 7 := by decide
  obtain ⟨h0, h1⟩ := U_bd x
  have HV := Lib.hid (rot_val x 7 25 rfl)
  go_enter Try.func40, Try.ntmps40
  go_wp2
  go_ret
  exact ⟨congrArg (fun z => Ending.returned (.int .u32 z)) HV.out, rfl⟩
theorem rol7 (x : BitVec 32) (w : World) : Calls Try.prog 41 #[.int .u32 (U x), .int .u64 7] w fun e w' => e = .returned (.int .u32 (U (rotl x 7))) ∧ w' = w := by
  obtain ⟨h0, h1⟩ := U_bd x
  have HV := Lib.hid (rot_val x 7 25 rfl)
  go_enter Try.func41, Try.ntmps41
  go_wp2
  go_ret
  exact ⟨congrArg (fun z => Ending.returned (.int .u32 z)) HV.out, rfl⟩

set_option maxRecDepth 100000 in
set_option maxHeartbeats 2000000 in
theorem quarter_any (g a b c d : Nat) (s0 : Nat → BitVec 32) (w0 : World) (ha : a < 16) (hb : b < 16) (hc : c < 16) (hd : d < 16) (hg : w0.heap[g]? = some (.cells (rowU 16 s0) 52 (0, 0))) :
    Calls Try.prog 32 #[.pointer (some ⟨g, 0, none⟩), .int .i64 a, .int .i64 b, .int .i64 c, .int .i64 d] w0 fun e w' => e = .returned (.tuple #[]) ∧ w'.heap[g]? = some (.cells (rowU 16 (qr a b c d s0)) 52 (0, 0)) ∧ w0.grownBy w' (some g) := by
  have a0 : (0 : Int) ≤ (a : Int) := by omega
  have a1 : (a : Int) < 16 := by omega
  have b0 : (0 : Int) ≤ (b : Int) := by omega
  have b1 : (b : Int) < 16 := by omega
  have c0 : (0 : Int) ≤ (c : Int) := by omega
  have c1 : (c : Int) < 16 := by omega
  have d0 : (0 : Int) ≤ (d : Int) := by omega
  have d1 : (d : Int) < 16 := by omega
  have hadd := U_add
  have hadd' := U_add'
  have hxor := U_xor
  have HG0 := Lib.hid hg
  have HR0 := Lib.hid (grown_refl w0 (some g))
  clear hg
  go_enter Try.func32, Try.ntmps32
  have x0 := cell_rowU HG0.out ha
  have y0 := cell_rowU HG0.out hb
  have f0 : w0.frozen? ⟨g, a, none⟩ = false := frozen_of_row w0 _ _ _ _ HG0.out
  go_wp2_with fail
  go_still_tail 13, (by kernel_rfl)
  try refine wpStill_nil ?_
  change wpList _ _ _ _ _ w0.drew
  go_wp2_with fail
  obtain ⟨w1, e1, hg1, hr1⟩ : ∃ W, (w0.setCell ⟨g, a, none⟩ (.int .u32 (U (s0 a + s0 b)))).drew = W ∧ W.heap[g]? = some (.cells (rowU 16 (q1 a b s0)) 52 (0, 0)) ∧ w0.grownBy W (some g) :=
    ⟨_, rfl, heap_set_rowU _ HG0.out ha, grown_drew (grown_setCell HR0.out (.inr rfl) _)⟩
  rw [e1]
  obtain ⟨s1, E1⟩ : ∃ s, s = q1 a b s0 := ⟨_, rfl⟩
  rw [← E1] at hg1
  have HE1 := Lib.hid E1
  have HG1 := Lib.hid hg1
  have HR1 := Lib.hid hr1
  clear e1 E1 hg1 hr1 x0 y0 f0 HG0 HR0
  have x1 := cell_rowU HG1.out hd
  have y1 := cell_rowU HG1.out ha
  have f1 : w1.frozen? ⟨g, d, none⟩ = false := frozen_of_row w1 _ _ _ _ HG1.out
  go_wp2_with fail
  go_still_tail 16, (by kernel_rfl)
  still_call (rot16 _ _)
  repeat still_step
  try refine wpStill_nil ?_
  change wpList _ _ _ _ _ w1.drew
  go_wp2_with fail
  obtain ⟨w2, e2, hg2, hr2⟩ : ∃ W, (w1.setCell ⟨g, d, none⟩ (.int .u32 (U (rotl (s1 d ^^^ s1 a) 16)))).drew = W ∧ W.heap[g]? = some (.cells (rowU 16 (q2 a d 16 s1)) 52 (0, 0)) ∧ w0.grownBy W (some g) :=
    ⟨_, rfl, heap_set_rowU _ HG1.out hd, grown_drew (grown_setCell HR1.out (.inr rfl) _)⟩
  rw [e2]
  obtain ⟨s2, E2⟩ : ∃ s, s = q2 a d 16 s1 := ⟨_, rfl⟩
  rw [← E2] at hg2
  have HE2 := Lib.hid E2
  have HG2 := Lib.hid hg2
  have HR2 := Lib.hid hr2
  clear e2 E2 hg2 hr2 x1 y1 f1 HG1 HR1
  have x2 := cell_rowU HG2.out hc
  have y2 := cell_rowU HG2.out hd
  have f2 : w2.frozen? ⟨g, c, none⟩ = false := frozen_of_row w2 _ _ _ _ HG2.out
  go_wp2_with fail
  go_still_tail 13, (by kernel_rfl)
  try refine wpStill_nil ?_
  change wpList _ _ _ _ _ w2.drew
  go_wp2_with fail
  obtain ⟨w3, e3, hg3, hr3⟩ : ∃ W, (w2.setCell ⟨g, c, none⟩ (.int .u32 (U (s2 c + s2 d)))).drew = W ∧ W.heap[g]? = some (.cells (rowU 16 (q1 c d s2)) 52 (0, 0)) ∧ w0.grownBy W (some g) :=
    ⟨_, rfl, heap_set_rowU _ HG2.out hc, grown_drew (grown_setCell HR2.out (.inr rfl) _)⟩
  rw [e3]
  obtain ⟨s3, E3⟩ : ∃ s, s = q1 c d s2 := ⟨_, rfl⟩
  rw [← E3] at hg3
  have HE3 := Lib.hid E3
  have HG3 := Lib.hid hg3
  have HR3 := Lib.hid hr3
  clear e3 E3 hg3 hr3 x2 y2 f2 HG2 HR2
  have x3 := cell_rowU HG3.out hb
  have y3 := cell_rowU HG3.out hc
  have f3 : w3.frozen? ⟨g, b, none⟩ = false := frozen_of_row w3 _ _ _ _ HG3.out
  go_wp2_with fail
  go_still_tail 16, (by kernel_rfl)
  still_call (rot12 _ _)
  repeat still_step
  try refine wpStill_nil ?_
  change wpList _ _ _ _ _ w3.drew
  go_wp2_with fail
  obtain ⟨w4, e4, hg4, hr4⟩ : ∃ W, (w3.setCell ⟨g, b, none⟩ (.int .u32 (U (rotl (s3 b ^^^ s3 c) 12)))).drew = W ∧ W.heap[g]? = some (.cells (rowU 16 (q2 c b 12 s3)) 52 (0, 0)) ∧ w0.grownBy W (some g) :=
    ⟨_, rfl, heap_set_rowU _ HG3.out hb, grown_drew (grown_setCell HR3.out (.inr rfl) _)⟩
  rw [e4]
  obtain ⟨s4, E4⟩ : ∃ s, s = q2 c b 12 s3 := ⟨_, rfl⟩
  rw [← E4] at hg4
  have HE4 := Lib.hid E4
  have HG4 := Lib.hid hg4
  have HR4 := Lib.hid hr4
  clear e4 E4 hg4 hr4 x3 y3 f3 HG3 HR3
  have x4 := cell_rowU HG4.out ha
  have y4 := cell_rowU HG4.out hb
  have f4 : w4.frozen? ⟨g, a, none⟩ = false := frozen_of_row w4 _ _ _ _ HG4.out
  go_wp2_with fail
  go_still_tail 13, (by kernel_rfl)
  try refine wpStill_nil ?_
  change wpList _ _ _ _ _ w4.drew
  go_wp2_with fail
  obtain ⟨w5, e5, hg5, hr5⟩ : ∃ W, (w4.setCell ⟨g, a, none⟩ (.int .u32 (U (s4 a + s4 b)))).drew = W ∧ W.heap[g]? = some (.cells (rowU 16 (q1 a b s4)) 52 (0, 0)) ∧ w0.grownBy W (some g) :=
    ⟨_, rfl, heap_set_rowU _ HG4.out ha, grown_drew (grown_setCell HR4.out (.inr rfl) _)⟩
  rw [e5]
  obtain ⟨s5, E5⟩ : ∃ s, s = q1 a b s4 := ⟨_, rfl⟩
  rw [← E5] at hg5
  have HE5 := Lib.hid E5
  have HG5 := Lib.hid hg5
  have HR5 := Lib.hid hr5
  clear e5 E5 hg5 hr5 x4 y4 f4 HG4 HR4
  have x5 := cell_rowU HG5.out hd
  have y5 := cell_rowU HG5.out ha
  have f5 : w5.frozen? ⟨g, d, none⟩ = false := frozen_of_row w5 _ _ _ _ HG5.out
  go_wp2_with fail
  go_still_tail 16, (by kernel_rfl)
  still_call (rot8 _ _)
  repeat still_step
  try refine wpStill_nil ?_
  change wpList _ _ _ _ _ w5.drew
  go_wp2_with fail
  obtain ⟨w6, e6, hg6, hr6⟩ : ∃ W, (w5.setCell ⟨g, d, none⟩ (.int .u32 (U (rotl (s5 d ^^^ s5 a) 8)))).drew = W ∧ W.heap[g]? = some (.cells (rowU 16 (q2 a d 8 s5)) 52 (0, 0)) ∧ w0.grownBy W (some g) :=
    ⟨_, rfl, heap_set_rowU _ HG5.out hd, grown_drew (grown_setCell HR5.out (.inr rfl) _)⟩
  rw [e6]
  obtain ⟨s6, E6⟩ : ∃ s, s = q2 a d 8 s5 := ⟨_, rfl⟩
  rw [← E6] at hg6
  have HE6 := Lib.hid E6
  have HG6 := Lib.hid hg6
  have HR6 := Lib.hid hr6
  clear e6 E6 hg6 hr6 x5 y5 f5 HG5 HR5
  have x6 := cell_rowU HG6.out hc
  have y6 := cell_rowU HG6.out hd
  have f6 : w6.frozen? ⟨g, c, none⟩ = false := frozen_of_row w6 _ _ _ _ HG6.out
  go_wp2_with fail
  go_still_tail 13, (by kernel_rfl)
  try refine wpStill_nil ?_
  change wpList _ _ _ _ _ w6.drew
  go_wp2_with fail
  obtain ⟨w7, e7, hg7, hr7⟩ : ∃ W, (w6.setCell ⟨g, c, none⟩ (.int .u32 (U (s6 c + s6 d)))).drew = W ∧ W.heap[g]? = some (.cells (rowU 16 (q1 c d s6)) 52 (0, 0)) ∧ w0.grownBy W (some g) :=
    ⟨_, rfl, heap_set_rowU _ HG6.out hc, grown_drew (grown_setCell HR6.out (.inr rfl) _)⟩
  rw [e7]
  obtain ⟨s7, E7⟩ : ∃ s, s = q1 c d s6 := ⟨_, rfl⟩
  rw [← E7] at hg7
  have HE7 := Lib.hid E7
  have HG7 := Lib.hid hg7
  have HR7 := Lib.hid hr7
  clear e7 E7 hg7 hr7 x6 y6 f6 HG6 HR6
  have x7 := cell_rowU HG7.out hb
  have y7 := cell_rowU HG7.out hc
  have f7 : w7.frozen? ⟨g, b, none⟩ = false := frozen_of_row w7 _ _ _ _ HG7.out
  go_wp2_with fail
  go_still_tail 16, (by kernel_rfl)
  still_call (rot7 _ _)
  repeat still_step
  try refine wpStill_nil ?_
  change wpList _ _ _ _ _ w7.drew
  go_wp2_with fail
  obtain ⟨w8, e8, hg8, hr8⟩ : ∃ W, (w7.setCell ⟨g, b, none⟩ (.int .u32 (U (rotl (s7 b ^^^ s7 c) 7)))).drew = W ∧ W.heap[g]? = some (.cells (rowU 16 (q2 c b 7 s7)) 52 (0, 0)) ∧ w0.grownBy W (some g) :=
    ⟨_, rfl, heap_set_rowU _ HG7.out hb, grown_drew (grown_setCell HR7.out (.inr rfl) _)⟩
  rw [e8]
  obtain ⟨s8, E8⟩ : ∃ s, s = q2 c b 7 s7 := ⟨_, rfl⟩
  rw [← E8] at hg8
  have HE8 := Lib.hid E8
  have HG8 := Lib.hid hg8
  have HR8 := Lib.hid hr8
  clear e8 E8 hg8 hr8 x7 y7 f7 HG7 HR7
  go_wp2
  go_end0
  refine ⟨rfl, ?_, HR8.out⟩
  unfold qr
  rw [← HE1.out, ← HE2.out, ← HE3.out, ← HE4.out, ← HE5.out, ← HE6.out, ← HE7.out, ← HE8.out]
  exact HG8.out

set_option maxRecDepth 100000 in
set_option maxHeartbeats 2000000 in
theorem refQuarter_any (g a b c d : Nat) (s0 : Nat → BitVec 32) (w0 : World) (ha : a < 16) (hb : b < 16) (hc : c < 16) (hd : d < 16) (hg : w0.heap[g]? = some (.cells (rowU 16 s0) 52 (0, 0))) :
    Calls Try.prog 34 #[.pointer (some ⟨g, 0, none⟩), .int .i64 a, .int .i64 b, .int .i64 c, .int .i64 d] w0 fun e w' => e = .returned (.tuple #[]) ∧ w'.heap[g]? = some (.cells (rowU 16 (qr a b c d s0)) 52 (0, 0)) ∧ w0.grownBy w' (some g) := by
  have a0 : (0 : Int) ≤ (a : Int) := by omega
  have a1 : (a : Int) < 16 := by omega
  have b0 : (0 : Int) ≤ (b : Int) := by omega
  have b1 : (b : Int) < 16 := by omega
  have c0 : (0 : Int) ≤ (c : Int) := by omega
  have c1 : (c : Int) < 16 := by omega
  have d0 : (0 : Int) ≤ (d : Int) := by omega
  have d1 : (d : Int) < 16 := by omega
  have hadd := U_add
  have hadd' := U_add'
  have hxor := U_xor
  have HG0 := Lib.hid hg
  have HR0 := Lib.hid (grown_refl w0 (some g))
  clear hg
  go_enter Try.func34, Try.ntmps34
  have x0 := cell_rowU HG0.out ha
  have y0 := cell_rowU HG0.out hb
  have f0 : w0.frozen? ⟨g, a, none⟩ = false := frozen_of_row w0 _ _ _ _ HG0.out
  go_wp2_with fail
  go_still_tail 15, (by kernel_rfl)
  try refine wpStill_nil ?_
  change wpList _ _ _ _ _ w0.drew
  go_wp2_with fail
  obtain ⟨w1, e1, hg1, hr1⟩ : ∃ W, (w0.setCell ⟨g, a, none⟩ (.int .u32 (U (s0 a + s0 b)))).drew = W ∧ W.heap[g]? = some (.cells (rowU 16 (q1 a b s0)) 52 (0, 0)) ∧ w0.grownBy W (some g) :=
    ⟨_, rfl, heap_set_rowU _ HG0.out ha, grown_drew (grown_setCell HR0.out (.inr rfl) _)⟩
  rw [e1]
  obtain ⟨s1, E1⟩ : ∃ s, s = q1 a b s0 := ⟨_, rfl⟩
  rw [← E1] at hg1
  have HE1 := Lib.hid E1
  have HG1 := Lib.hid hg1
  have HR1 := Lib.hid hr1
  clear e1 E1 hg1 hr1 x0 y0 f0 HG0 HR0
  have x1 := cell_rowU HG1.out hd
  have y1 := cell_rowU HG1.out ha
  have f1 : w1.frozen? ⟨g, d, none⟩ = false := frozen_of_row w1 _ _ _ _ HG1.out
  go_wp2_with fail
  go_still_tail 16, (by kernel_rfl)
  still_call (rol16 _ _)
  repeat still_step
  try refine wpStill_nil ?_
  change wpList _ _ _ _ _ w1.drew
  go_wp2_with fail
  obtain ⟨w2, e2, hg2, hr2⟩ : ∃ W, (w1.setCell ⟨g, d, none⟩ (.int .u32 (U (rotl (s1 d ^^^ s1 a) 16)))).drew = W ∧ W.heap[g]? = some (.cells (rowU 16 (q2 a d 16 s1)) 52 (0, 0)) ∧ w0.grownBy W (some g) :=
    ⟨_, rfl, heap_set_rowU _ HG1.out hd, grown_drew (grown_setCell HR1.out (.inr rfl) _)⟩
  rw [e2]
  obtain ⟨s2, E2⟩ : ∃ s, s = q2 a d 16 s1 := ⟨_, rfl⟩
  rw [← E2] at hg2
  have HE2 := Lib.hid E2
  have HG2 := Lib.hid hg2
  have HR2 := Lib.hid hr2
  clear e2 E2 hg2 hr2 x1 y1 f1 HG1 HR1
  have x2 := cell_rowU HG2.out hc
  have y2 := cell_rowU HG2.out hd
  have f2 : w2.frozen? ⟨g, c, none⟩ = false := frozen_of_row w2 _ _ _ _ HG2.out
  go_wp2_with fail
  go_still_tail 15, (by kernel_rfl)
  try refine wpStill_nil ?_
  change wpList _ _ _ _ _ w2.drew
  go_wp2_with fail
  obtain ⟨w3, e3, hg3, hr3⟩ : ∃ W, (w2.setCell ⟨g, c, none⟩ (.int .u32 (U (s2 c + s2 d)))).drew = W ∧ W.heap[g]? = some (.cells (rowU 16 (q1 c d s2)) 52 (0, 0)) ∧ w0.grownBy W (some g) :=
    ⟨_, rfl, heap_set_rowU _ HG2.out hc, grown_drew (grown_setCell HR2.out (.inr rfl) _)⟩
  rw [e3]
  obtain ⟨s3, E3⟩ : ∃ s, s = q1 c d s2 := ⟨_, rfl⟩
  rw [← E3] at hg3
  have HE3 := Lib.hid E3
  have HG3 := Lib.hid hg3
  have HR3 := Lib.hid hr3
  clear e3 E3 hg3 hr3 x2 y2 f2 HG2 HR2
  have x3 := cell_rowU HG3.out hb
  have y3 := cell_rowU HG3.out hc
  have f3 : w3.frozen? ⟨g, b, none⟩ = false := frozen_of_row w3 _ _ _ _ HG3.out
  go_wp2_with fail
  go_still_tail 16, (by kernel_rfl)
  still_call (rol12 _ _)
  repeat still_step
  try refine wpStill_nil ?_
  change wpList _ _ _ _ _ w3.drew
  go_wp2_with fail
  obtain ⟨w4, e4, hg4, hr4⟩ : ∃ W, (w3.setCell ⟨g, b, none⟩ (.int .u32 (U (rotl (s3 b ^^^ s3 c) 12)))).drew = W ∧ W.heap[g]? = some (.cells (rowU 16 (q2 c b 12 s3)) 52 (0, 0)) ∧ w0.grownBy W (some g) :=
    ⟨_, rfl, heap_set_rowU _ HG3.out hb, grown_drew (grown_setCell HR3.out (.inr rfl) _)⟩
  rw [e4]
  obtain ⟨s4, E4⟩ : ∃ s, s = q2 c b 12 s3 := ⟨_, rfl⟩
  rw [← E4] at hg4
  have HE4 := Lib.hid E4
  have HG4 := Lib.hid hg4
  have HR4 := Lib.hid hr4
  clear e4 E4 hg4 hr4 x3 y3 f3 HG3 HR3
  have x4 := cell_rowU HG4.out ha
  have y4 := cell_rowU HG4.out hb
  have f4 : w4.frozen? ⟨g, a, none⟩ = false := frozen_of_row w4 _ _ _ _ HG4.out
  go_wp2_with fail
  go_still_tail 15, (by kernel_rfl)
  try refine wpStill_nil ?_
  change wpList _ _ _ _ _ w4.drew
  go_wp2_with fail
  obtain ⟨w5, e5, hg5, hr5⟩ : ∃ W, (w4.setCell ⟨g, a, none⟩ (.int .u32 (U (s4 a + s4 b)))).drew = W ∧ W.heap[g]? = some (.cells (rowU 16 (q1 a b s4)) 52 (0, 0)) ∧ w0.grownBy W (some g) :=
    ⟨_, rfl, heap_set_rowU _ HG4.out ha, grown_drew (grown_setCell HR4.out (.inr rfl) _)⟩
  rw [e5]
  obtain ⟨s5, E5⟩ : ∃ s, s = q1 a b s4 := ⟨_, rfl⟩
  rw [← E5] at hg5
  have HE5 := Lib.hid E5
  have HG5 := Lib.hid hg5
  have HR5 := Lib.hid hr5
  clear e5 E5 hg5 hr5 x4 y4 f4 HG4 HR4
  have x5 := cell_rowU HG5.out hd
  have y5 := cell_rowU HG5.out ha
  have f5 : w5.frozen? ⟨g, d, none⟩ = false := frozen_of_row w5 _ _ _ _ HG5.out
  go_wp2_with fail
  go_still_tail 16, (by kernel_rfl)
  still_call (rol8 _ _)
  repeat still_step
  try refine wpStill_nil ?_
  change wpList _ _ _ _ _ w5.drew
  go_wp2_with fail
  obtain ⟨w6, e6, hg6, hr6⟩ : ∃ W, (w5.setCell ⟨g, d, none⟩ (.int .u32 (U (rotl (s5 d ^^^ s5 a) 8)))).drew = W ∧ W.heap[g]? = some (.cells (rowU 16 (q2 a d 8 s5)) 52 (0, 0)) ∧ w0.grownBy W (some g) :=
    ⟨_, rfl, heap_set_rowU _ HG5.out hd, grown_drew (grown_setCell HR5.out (.inr rfl) _)⟩
  rw [e6]
  obtain ⟨s6, E6⟩ : ∃ s, s = q2 a d 8 s5 := ⟨_, rfl⟩
  rw [← E6] at hg6
  have HE6 := Lib.hid E6
  have HG6 := Lib.hid hg6
  have HR6 := Lib.hid hr6
  clear e6 E6 hg6 hr6 x5 y5 f5 HG5 HR5
  have x6 := cell_rowU HG6.out hc
  have y6 := cell_rowU HG6.out hd
  have f6 : w6.frozen? ⟨g, c, none⟩ = false := frozen_of_row w6 _ _ _ _ HG6.out
  go_wp2_with fail
  go_still_tail 15, (by kernel_rfl)
  try refine wpStill_nil ?_
  change wpList _ _ _ _ _ w6.drew
  go_wp2_with fail
  obtain ⟨w7, e7, hg7, hr7⟩ : ∃ W, (w6.setCell ⟨g, c, none⟩ (.int .u32 (U (s6 c + s6 d)))).drew = W ∧ W.heap[g]? = some (.cells (rowU 16 (q1 c d s6)) 52 (0, 0)) ∧ w0.grownBy W (some g) :=
    ⟨_, rfl, heap_set_rowU _ HG6.out hc, grown_drew (grown_setCell HR6.out (.inr rfl) _)⟩
  rw [e7]
  obtain ⟨s7, E7⟩ : ∃ s, s = q1 c d s6 := ⟨_, rfl⟩
  rw [← E7] at hg7
  have HE7 := Lib.hid E7
  have HG7 := Lib.hid hg7
  have HR7 := Lib.hid hr7
  clear e7 E7 hg7 hr7 x6 y6 f6 HG6 HR6
  have x7 := cell_rowU HG7.out hb
  have y7 := cell_rowU HG7.out hc
  have f7 : w7.frozen? ⟨g, b, none⟩ = false := frozen_of_row w7 _ _ _ _ HG7.out
  go_wp2_with fail
  go_still_tail 16, (by kernel_rfl)
  still_call (rol7 _ _)
  repeat still_step
  try refine wpStill_nil ?_
  change wpList _ _ _ _ _ w7.drew
  go_wp2_with fail
  obtain ⟨w8, e8, hg8, hr8⟩ : ∃ W, (w7.setCell ⟨g, b, none⟩ (.int .u32 (U (rotl (s7 b ^^^ s7 c) 7)))).drew = W ∧ W.heap[g]? = some (.cells (rowU 16 (q2 c b 7 s7)) 52 (0, 0)) ∧ w0.grownBy W (some g) :=
    ⟨_, rfl, heap_set_rowU _ HG7.out hb, grown_drew (grown_setCell HR7.out (.inr rfl) _)⟩
  rw [e8]
  obtain ⟨s8, E8⟩ : ∃ s, s = q2 c b 7 s7 := ⟨_, rfl⟩
  rw [← E8] at hg8
  have HE8 := Lib.hid E8
  have HG8 := Lib.hid hg8
  have HR8 := Lib.hid hr8
  clear e8 E8 hg8 hr8 x7 y7 f7 HG7 HR7
  go_wp2
  go_end0
  refine ⟨rfl, ?_, HR8.out⟩
  unfold qr
  rw [← HE1.out, ← HE2.out, ← HE3.out, ← HE4.out, ← HE5.out, ← HE6.out, ← HE7.out, ← HE8.out]
  exact HG8.out

end Go.Proofs.Ytdcndfcdjlpecaa
