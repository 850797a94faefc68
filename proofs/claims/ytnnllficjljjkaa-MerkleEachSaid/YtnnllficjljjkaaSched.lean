/-
  The walk of sha's schedule: it makes the words of the block that lies in the state.
-/
import Derived.Test.YtnnllficjljjkaaRot
import Derived.Test.YtnnllficjljjkaaLaws
import Derived.Deep.QuietTactic
import Derived.BigQuiet
import Derived.StillTailTactics
namespace Go.Proofs.Ytnnllficjljjkaa
open Go.RowKit

theorem info64 : (Try.prog.info? 46).map (fun i => (i.zero, i.size)) = some (some (.agg (row 64 fun _ => .int .u32 0)), 64) := by kernel_rfl
theorem info64b : (Try.prog.info? 47).map (·.size) = some 64 := by kernel_rfl
theorem size64 : (Try.prog.info? 46).map (·.size) = some 64 := by kernel_rfl

theorem rowU_zero : (row 64 fun _ => Value.int .u32 0) = rowU 64 fun _ => 0 := rfl

theorem index_block {b : Nat → BitVec 8} {k : Nat} (h : k < 64) (w : World) : (Instr.index 47 (.agg (row 64 fun i => Value.int .u8 (B8 (b i)))) (.int .i64 k)).run Try.prog w = .ok (.int .u8 (B8 (b k))) w :=
  run_index_row _ Try.underlying47 (by kernel_rfl) (fun w => by kernel_rfl) h w

set_option maxRecDepth 100000 in
set_option maxHeartbeats 400000 in
theorem schedule_any (sb : Nat) (S : Nat → Value) (b : Nat → BitVec 8) (w : World) (hg : w.heap[sb]? = some (.cells (row 138 S) 50 (0, 0))) (hS : ∀ i, i < 64 → S (72 + i) = .int .u8 (B8 (b i))) :
    Calls Try.prog 27 #[.pointer (some ⟨sb, 0, none⟩)] w fun e w' => e = .returned (.agg (rowU 64 (sched b))) ∧ Below w.heap.size w w' := by
  have hsb : sb < w.heap.size := (Array.getElem?_eq_some_iff.1 hg).1
  have hg2 : ((w.alloc (.cells (row 64 fun _ => .int .u32 0) 46)).alloc (.cells (row 64 fun _ => .int .u32 0) 46)).heap[sb]? = some (.cells (row 138 S) 50 (0, 0)) := by
    rw [Below.heap_alloc _ _ _ (by simp; omega), Below.heap_alloc _ _ _ hsb, hg]
  have hR := rangeAt_row (o := 72) (n := 64) hg2 (by decide)
  rw [row_congr hS] at hR
  have HR := Lib.hid hR
  have HI := Lib.hid (show (Try.prog.info? 47).map (·.size) = some (row 64 fun i => Value.int .u8 (B8 (b i))).toList.length by rw [info64b]; simp [row_size])
  clear hg hR hS hg2
  go_enter Try.func27, Try.ntmps27
  go_wp2_with (first | (with_reducible refine wpList_alloc_row rfl 46 rfl 64 _ info64 ?_) | (with_reducible refine wpList_load_mid rfl 47 _ rfl sb 72 rfl _ _ HR.out Try.underlying47 rfl HI.out ?_))
  go_loopw [15] (fun i wr => ∃ k : Nat, k ≤ 64 ∧ i = .int .i64 k ∧ wr.heap[w.heap.size + 1]? = some (.cells (rowU 64 (sch1 b k)) 46 (0, 0)) ∧ wr.heap[w.heap.size]? = some (.cells (rowU 64 fun _ => 0) 46 (0, 0)) ∧ Below w.heap.size w wr) (fun i _ => 64 - (intOf i).toNat)
  case atStart => exact ⟨0, by omega, rfl, heap_alloc2_new _ _ _, heap_alloc2_old _ _ _, (((Below.refl _ _).alloc (Nat.le_refl _) _).alloc (by simp) _)⟩
  case round =>
    obtain ⟨k, hk, rfl, hw, hz, hbel⟩ := hrel
    by_cases hlt : k < 64
    · have hi := fun w => index_block (b := b) hlt w
      have hk0 : (0 : Int) ≤ (k : Int) := by omega
      have hk1 : (k : Int) < 64 := by omega
      have hc : wr.cell? ⟨w.heap.size + 1, k / 4, none⟩ = some (.int .u32 (U (sch1 b k (k / 4)))) := cell_row hw (by omega)
      have hf : wr.frozen? ⟨w.heap.size + 1, k / 4, none⟩ = false := frozen_of_row wr _ _ _ _ hw
      obtain ⟨u0, u1⟩ := U_bd (sch1 b k (k / 4))
      obtain ⟨v0, v1⟩ := B8_bd (b k)
      have HW := Lib.hid hw
      have HZ := Lib.hid hz
      clear hw hz
      go_wp2
      go_roundw
      case rel =>
        refine ⟨k + 1, by omega, by go_num, ?_, ?_, hbel.setCell (by simp) _⟩
        · rw [U_shl8, B8_wide, U_or]
          exact heap_set_rowU _ HW.out (by omega)
        · rw [heap_setCell_other _ _ _ _ (by simp)]; exact HZ.out
      case measure => simp [intOf]; omega
    · have e : sch1 b k = sch1 b 64 := by rw [show k = 64 by omega]
      rw [e] at hw
      clear e
      go_wp2
      go_loopw [6] (fun i wr => ∃ k : Nat, 16 ≤ k ∧ k ≤ 64 ∧ i = .int .i64 k ∧ wr.heap[w.heap.size + 1]? = some (.cells (rowU 64 (sch2 (sch1 b 64) k)) 46 (0, 0)) ∧ wr.heap[w.heap.size]? = some (.cells (rowU 64 fun _ => 0) 46 (0, 0)) ∧ Below w.heap.size w wr) (fun i _ => 64 - (intOf i).toNat)
      case atStart => exact ⟨16, by omega, by omega, rfl, by rw [sch2_low _ 16 (by omega)]; exact hw, hz, hbel⟩
      case round =>
        clear hw hz hbel hk hlt
        obtain ⟨K1, rfl⟩ : ∃ K1, K1 = k := ⟨_, rfl⟩
        obtain ⟨k, hk16, hk, rfl, hw, hz, hbel⟩ := hrel
        by_cases hlt : k < 64
        · have hk0 : (16 : Int) ≤ (k : Int) := by omega
          have hk1 : (k : Int) < 64 := by omega
          have hc2 : wr.cell? ⟨w.heap.size + 1, k - 2, none⟩ = some (.int .u32 (U (sch2 (sch1 b 64) k (k - 2)))) := cell_row hw (by omega)
          have hc7 : wr.cell? ⟨w.heap.size + 1, k - 7, none⟩ = some (.int .u32 (U (sch2 (sch1 b 64) k (k - 7)))) := cell_row hw (by omega)
          have hc15 : wr.cell? ⟨w.heap.size + 1, k - 15, none⟩ = some (.int .u32 (U (sch2 (sch1 b 64) k (k - 15)))) := cell_row hw (by omega)
          have hc16 : wr.cell? ⟨w.heap.size + 1, k - 16, none⟩ = some (.int .u32 (U (sch2 (sch1 b 64) k (k - 16)))) := cell_row hw (by omega)
          have hc : wr.cell? ⟨w.heap.size + 1, k, none⟩ = some (.int .u32 (U (sch2 (sch1 b 64) k k))) := cell_row hw (by omega)
          have hf : wr.frozen? ⟨w.heap.size + 1, k, none⟩ = false := frozen_of_row wr _ _ _ _ hw
          have HW := Lib.hid hw
          have HZ := Lib.hid hz
          have HS := Lib.hid (sch2_step (sch1 b 64) hk16)
          clear hw hz
          generalize sch2 (sch1 b 64) k = f at *
          obtain ⟨a0, a1⟩ := U_bd (f (k - 2))
          obtain ⟨b0, b1⟩ := U_bd (f (k - 15))
          have hs0 := sig0_val (f (k - 15))
          have hs1 := sig1_val (f (k - 2))
          have hadd := U_add
          go_wp2
          go_quiet (fail)
          go_wp2_with (first | (go_at_call 28; with_reducible refine (rot7 _ _).mono ?_; rintro e w' ⟨rfl, rfl⟩) | (go_at_call 28; with_reducible refine (rot18 _ _).mono ?_; rintro e w' ⟨rfl, rfl⟩) | (go_at_call 28; with_reducible refine (rot17 _ _).mono ?_; rintro e w' ⟨rfl, rfl⟩) | (go_at_call 28; with_reducible refine (rot19 _ _).mono ?_; rintro e w' ⟨rfl, rfl⟩))
          clear hs0 hs1 hc2 hc7 hc15 hc16 hc hf
          have hw : (wr.drewN nq).heap[w.heap.size + 1]? = some (.cells (rowU 64 f) 46 (0, 0)) := HW.out
          have hz : (wr.drewN nq).heap[w.heap.size]? = some (.cells (rowU 64 fun _ => 0) 46 (0, 0)) := HZ.out
          have hbel := below_drewN hbel nq
          clear HW HZ
          generalize wr.drewN nq = W at *
          have hc7 : W.cell? ⟨w.heap.size + 1, k - 7, none⟩ = some (.int .u32 (U (f (k - 7)))) := cell_rowU hw (by omega)
          have hc16 : W.cell? ⟨w.heap.size + 1, k - 16, none⟩ = some (.int .u32 (U (f (k - 16)))) := cell_rowU hw (by omega)
          have hc : W.cell? ⟨w.heap.size + 1, k, none⟩ = some (.int .u32 (U (f k))) := cell_rowU hw (by omega)
          have hf : W.frozen? ⟨w.heap.size + 1, k, none⟩ = false := frozen_of_row W _ _ _ _ hw
          have HW := Lib.hid hw
          have HZ := Lib.hid hz
          clear hw hz
          have e7 : IntKind.i64.wrap ((k : Int) - 7) = (k : Int) - 7 := IntWalk.i64_in _ (by omega)
          have e16 : IntKind.i64.wrap ((k : Int) - 16) = (k : Int) - 16 := IntWalk.i64_in _ (by omega)
          have t7 : ((k : Int) - 7).toNat = k - 7 := by omega
          have t16 : ((k : Int) - 16).toNat = k - 16 := by omega
          have p7 : (7 : Int) ≤ (k : Int) := by omega
          have q7 : (k : Int) - 7 < 64 := by omega
          have q16 : (k : Int) - 16 < 64 := by omega
          go_still_tail 15, (by kernel_rfl)
          clear e7 e16 t7 t16 p7 q7 q16
          change wpList _ _ _ _ _ W.drew
          go_wp2
          go_roundw
          case rel =>
            refine ⟨k + 1, by omega, by omega, by go_num, ?_, ?_, (hbel.setCell (by simp) _).drew⟩
            · rw [HS.out]
              exact heap_set_rowU _ HW.out (by omega)
            · show (W.setCell _ _).heap[_]? = _
              rw [heap_setCell_other _ _ _ _ (by simp)]; exact HZ.out
          case measure => simp [intOf]; omega
        · have e : sch2 (sch1 b 64) k = sched b := by rw [show k = 64 by omega]; rfl
          rw [e] at hw
          clear e
          have HW := Lib.hid hw
          have HZ := Lib.hid hz
          have HN := Lib.hid (show (Try.prog.info? 46).map (·.size) = some (rowU 64 (sched b)).size by rw [size64, rowU_size])
          clear hw hz
          go_wp2_with (first | (with_reducible refine wpList_load_row rfl 46 _ rfl (w.heap.size + 1) rfl 46 (rowU 64 (sched b)) (0, 0) _ HW.out Try.underlying46 rfl HN.out ?_) | (with_reducible refine wpList_store_rowTo rfl 46 _ _ rfl rfl w.heap.size (rowU 64 (sched b)) rfl rfl 46 _ HZ.out HN.out (by rw [rowU_size, rowU_size]) (rowU_oneCell _ _) ?_))
          refine bodyPost_ret (results_cell_row rfl _ _ w.heap.size 46 (rowU 64 (sched b)) (0, 0) _ rfl (heap_setRow_at HZ.out) Try.underlying46 rfl HN.out) rfl ?_
          exact ⟨rfl, below_setRow hbel (Nat.le_refl _) _⟩

end Go.Proofs.Ytnnllficjljjkaa
