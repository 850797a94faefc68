/-
  The walk of a block of the stream, by the program.
-/
import Derived.Test.YtdcndfcdjlpecaaBegin
namespace Go.Proofs.Ytdcndfcdjlpecaa
open Go.RowKit
set_option linter.unusedVariables false
set_option linter.unusedSimpArgs false

theorem info64 : (Try.prog.info? 28).map (fun i => (i.zero, i.size)) = some (some (.agg (row 64 fun _ => .int .u8 0)), 64) := by kernel_rfl
theorem size64 : (Try.prog.info? 28).map (·.size) = some 64 := by kernel_rfl

/-- A block's first k bytes. -/
def outCK (v s : Nat → BitVec 32) (k : Nat) : Nat → BitVec 8 := fun i => if i < k then outC v s i else 0
theorem outCK_step (v s : Nat → BitVec 32) (k : Nat) : upd (outCK v s k) k (outC v s k) = outCK v s (k + 1) := by
  funext i
  unfold upd outCK
  by_cases e : i = k
  · subst e; simp
  · rw [if_neg e]
    by_cases hi : i < k
    · rw [if_pos hi, if_pos (by omega)]
    · rw [if_neg hi, if_neg (by omega)]
theorem outCK_full (v s : Nat → BitVec 32) : rowB 64 (outCK v s 64) = rowB 64 (outC v s) := row_congr fun i hi => by unfold outCK; rw [if_pos hi]
theorem outC_val (v s : Nat → BitVec 32) (k r : Nat) (hr : k % 4 = r) : U (v (k / 4) + s (k / 4)) / ((2 ^ (8 * r) : Nat) : Int) % (256 : Int) = B8 (outC v s k) := by
  unfold U B8 outC
  rw [BitVec.toNat_setWidth, BitVec.toNat_ushiftRight, Nat.shiftRight_eq_div_pow, hr, Int.natCast_emod, Int.natCast_ediv]
  rfl

/-- The blocks of a call that makes a block of the stream: a result, the words of the beginning, the words that are turned. -/
structure BlkAt (w : World) (s v : Nat → BitVec 32) (gs gv : Nat) (wr : World) : Prop where
  hr : wr.heap[w.heap.size + 2]? = some (.cells (row 64 fun _ => .int .u8 0) 28 (0, 0))
  hs : wr.heap[gs]? = some (.cells (rowU 16 s) 52 (0, 0))
  hv : wr.heap[gv]? = some (.cells (rowU 16 v) 52 (0, 0))
  ls : w.heap.size + 2 < gs
  lv : gs < gv
  hb : Below w.heap.size w wr
theorem BlkAt.turn {w wr w' : World} {s v v' : Nat → BitVec 32} {gs gv : Nat} (h : BlkAt w s v gs gv wr) (hv : w'.heap[gv]? = some (.cells (rowU 16 v') 52 (0, 0))) (hg : wr.grownBy w' (some gv)) : BlkAt w s v' gs gv w' := by
  have lv := h.lv
  have ls := h.ls
  refine ⟨?_, ?_, hv, ls, lv, h.hb.grown hg h.hb.size (fun k hk => by cases hk; omega)⟩
  · exact (hg.block _ (Array.getElem?_eq_some_iff.1 h.hr).1 (by intro e; injection e with e; omega)).trans h.hr
  · exact (hg.block _ (Array.getElem?_eq_some_iff.1 h.hs).1 (by intro e; injection e with e; omega)).trans h.hs

set_option maxRecDepth 100000 in
set_option maxHeartbeats 2000000 in
theorem block_any (key nonce : Nat → BitVec 8) (n : Int) (w : World) :
    Calls Try.prog 12 #[.agg (rowB 32 key), .int .i64 n, .agg (rowB 12 nonce)] w fun e w' => e = .returned (.agg (rowB 64 (blockC key (BitVec.ofInt 32 n) nonce))) ∧ Below w.heap.size w w' := by
  have hcv := U_ofInt' n
  obtain ⟨s, hs0⟩ : ∃ s, s = begS key (BitVec.ofInt 32 n) nonce := ⟨_, rfl⟩
  have HS0 := Lib.hid hs0
  have HZ := Lib.hid (show (Try.prog.info? 52).map (·.size) = some (rowU 16 s).size by rw [size16, rowU_size])
  have HZK := Lib.hid (show (Try.prog.info? 23).map (·.size) = some (rowB 32 key).size by rw [rowB_size]; kernel_rfl)
  have HZN := Lib.hid (show (Try.prog.info? 25).map (·.size) = some (rowB 12 nonce).size by rw [rowB_size]; kernel_rfl)
  have hbg := begin_any key nonce (BitVec.ofInt 32 n)
  rw [← hs0] at hbg
  have HBG := Lib.hid hbg
  clear hbg hs0
  go_enter Try.func12, Try.ntmps12
  go_wp2_with (first
    | (with_reducible refine wpList_alloc_row rfl 28 rfl 64 _ info64 ?_)
    | ((with_reducible show wpList _ _ _ (⟨_, .load 23 _, _, _, _, _⟩ :: _) _ _); refine wpList_load_row rfl 23 _ rfl w.heap.size rfl 23 (rowB 32 key) (0, 0) _ ?h1 Try.underlying23 rfl HZK.out ?_; rotate_left)
    | ((with_reducible show wpList _ _ _ (⟨_, .load 25 _, _, _, _, _⟩ :: _) _ _); refine wpList_load_row rfl 25 _ rfl (w.heap.size + 1) rfl 25 (rowB 12 nonce) (0, 0) _ ?h2 Try.underlying25 rfl HZN.out ?_; rotate_left))
  case h1 => exact (Below.heap_alloc _ _ _ (by simp; omega)).trans ((Below.heap_alloc _ _ _ (by simp)).trans (heap_alloc_new _ _))
  case h2 =>
    refine (Below.heap_alloc _ _ _ (by simp)).trans ?_
    have := heap_alloc_new (w.alloc (.cells (rowB 32 key) 23)) (.cells (rowB 12 nonce) 25)
    simpa using this
  refine (HBG.out _).mono ?_
  rintro e w1 ⟨rfl, hb1⟩
  have HB1 := Lib.hid (show Below w.heap.size w w1 from below_keep (below_allocS (below_allocS (below_allocS (Below.refl w.heap.size w) (.cells (rowB 32 key) 23)) (.cells (rowB 12 nonce) 25)) (.cells (row 64 fun _ => .int .u8 0) 28)) hb1)
  have HR1 := Lib.hid (show w1.heap[w.heap.size + 2]? = some (.cells (row 64 fun _ => .int .u8 0) 28 (0, 0)) from by
    refine (hb1.block _ (by simp)).trans ?_
    have := heap_alloc_new ((w.alloc (.cells (rowB 32 key) 23)).alloc (.cells (rowB 12 nonce) 25)) (.cells (row 64 fun _ => .int .u8 0) 28)
    simpa using this)
  have hz1 : w.heap.size + 2 < w1.heap.size := by have := hb1.size; simp at this; omega
  clear hb1
  go_wp2_with (first
    | (with_reducible refine wpList_alloc_row rfl 52 rfl 16 _ info16 ?_)
    | ((with_reducible show wpList _ _ _ (⟨_, .load 52 _, _, _, _, _⟩ :: _) _ _); refine wpList_load_row rfl 52 _ rfl w1.heap.size rfl 52 (rowU 16 s) (0, 0) _ (heap_setRow_at (heap_alloc_new _ _)) Try.underlying52 rfl HZ.out ?_)
    | ((with_reducible show wpList _ _ _ (⟨_, .store 52 _ _, _, _, _, _⟩ :: _) _ _); refine wpList_store_rowTo rfl 52 _ _ rfl rfl _ (rowU 16 s) rfl rfl 52 _ (heap_alloc_new _ _) HZ.out (by rw [row_size, rowU_size]) (rowU_oneCell _ _) ?_))
  obtain ⟨gs, egs⟩ : ∃ gs, gs = w1.heap.size := ⟨_, rfl⟩
  have HA := Lib.hid (show BlkAt w s (dbls s 0) gs (gs + 1) ((((w1.alloc (.cells (row 16 fun _ => .int .u32 0) 52)).setRow w1.heap.size (rowU 16 s)).alloc (.cells (row 16 fun _ => .int .u32 0) 52)).setRow (w1.heap.size + 1) (rowU 16 s)) from by
    subst egs
    refine ⟨?_, ?_, ?_, hz1, by omega, ?_⟩
    · refine (heap_setRow_far (by omega)).trans ((Below.heap_alloc _ _ _ (by simp [World.setRow]; omega)).trans ((heap_setRow_far (by omega)).trans ((Below.heap_alloc _ _ _ (by omega)).trans HR1.out)))
    · refine (heap_setRow_far (by omega)).trans ((Below.heap_alloc _ _ _ (by simp [World.setRow])).trans (heap_setRow_at (heap_alloc_new _ _)))
    · refine heap_setRow_at (c := row 16 fun _ => .int .u32 0) ?_
      have := heap_alloc_new ((w1.alloc (.cells (row 16 fun _ => .int .u32 0) 52)).setRow w1.heap.size (rowU 16 s)) (.cells (row 16 fun _ => .int .u32 0) 52)
      simpa [World.setRow] using this
    · exact below_setRow (below_allocS (below_setRow (below_allocS HB1.out _) (by omega) _) _) (by omega) _)
  generalize (((w1.alloc (.cells (row 16 fun _ => .int .u32 0) 52)).setRow w1.heap.size (rowU 16 s)).alloc (.cells (row 16 fun _ => .int .u32 0) 52)).setRow (w1.heap.size + 1) (rowU 16 s) = W at *
  rw [← egs]
  clear egs hz1 HR1 HB1
  go_loopw [19] (fun i wr => ∃ k : Nat, k ≤ 10 ∧ i = .int .i64 k ∧ BlkAt w s (dbls s k) gs (gs + 1) wr) (fun i _ => 10 - (intOf i).toNat)
  case atStart => exact ⟨0, by omega, rfl, HA.out⟩
  case round =>
    clear HA
    obtain ⟨k, hk, rfl, hA⟩ := hrel
    have HA := Lib.hid hA
    clear hA
    by_cases hlt : k < 10
    · have hk0 : (0 : Int) ≤ (k : Int) := by omega
      have hk1 : (k : Int) < 10 := by omega
      have HD := Lib.hid (show dbls s (k + 1) = dias (cols (dbls s k) 4) 4 from rfl)
      generalize dbls s k = v at *
      go_wp2
      obtain ⟨wo, rfl⟩ : ∃ wo : World, wo = wr := ⟨_, rfl⟩
      go_loopw [21] (fun i wr => ∃ j : Nat, j ≤ 4 ∧ i = .int .i64 j ∧ BlkAt w s (cols v j) gs (gs + 1) wr) (fun i _ => 4 - (intOf i).toNat)
      case atStart => exact ⟨0, by omega, rfl, HA.out⟩
      case round =>
        clear HA
        obtain ⟨j, hj, rfl, hA⟩ := hrel
        have HA := Lib.hid hA
        clear hA
        by_cases hlt4 : j < 4
        · have hj0 : (0 : Int) ≤ (j : Int) := by omega
          have hj1 : (j : Int) < 4 := by omega
          have hq := quarter_any (gs + 1) j (4 + j) (8 + j) (12 + j) (cols v j) wr (by omega) (by omega) (by omega) (by omega) HA.out.hv
          rw [show ((4 + j : Nat) : Int) = 4 + (j : Int) by omega, show ((8 + j : Nat) : Int) = 8 + (j : Int) by omega, show ((12 + j : Nat) : Int) = 12 + (j : Int) by omega] at hq
          have HQ := Lib.hid hq
          clear hq
          go_wp2_with fail
          refine HQ.out.mono ?_
          rintro e w2 ⟨rfl, hv2, hg2⟩
          have HA2 := Lib.hid (show BlkAt w s (cols v (j + 1)) gs (gs + 1) w2 from HA.out.turn hv2 hg2)
          clear hv2 hg2
          go_wp2_with fail
          go_roundw
          case rel => exact ⟨j + 1, by omega, by go_num, HA2.out⟩
          case measure => simp [intOf]; omega
        · obtain rfl : j = 4 := by omega
          rw [show ((4 : Nat) : Int) = 4 from rfl]
          generalize cols v 4 = v1 at *
          go_wp2
          obtain ⟨wo, rfl⟩ : ∃ wo : World, wo = wr := ⟨_, rfl⟩
          go_loopw [33] (fun i wr => ∃ j : Nat, j ≤ 4 ∧ i = .int .i64 j ∧ BlkAt w s (dias v1 j) gs (gs + 1) wr) (fun i _ => 4 - (intOf i).toNat)
          case atStart => exact ⟨0, by omega, rfl, HA.out⟩
          case round =>
            clear HA
            obtain ⟨j, hj, rfl, hA⟩ := hrel
            have HA := Lib.hid hA
            clear hA
            by_cases hlt4 : j < 4
            · have hj0 : (0 : Int) ≤ (j : Int) := by omega
              have hj1 : (j : Int) < 4 := by omega
              have hq := quarter_any (gs + 1) j (4 + (j + 1) % 4) (8 + (j + 2) % 4) (12 + (j + 3) % 4) (dias v1 j) wr (by omega) (by omega) (by omega) (by omega) HA.out.hv
              rw [show ((4 + (j + 1) % 4 : Nat) : Int) = 4 + ((j : Int) + 1) % 4 by omega, show ((8 + (j + 2) % 4 : Nat) : Int) = 8 + ((j : Int) + 2) % 4 by omega, show ((12 + (j + 3) % 4 : Nat) : Int) = 12 + ((j : Int) + 3) % 4 by omega] at hq
              have HQ := Lib.hid hq
              clear hq
              go_wp2_with fail
              refine HQ.out.mono ?_
              rintro e w2 ⟨rfl, hv2, hg2⟩
              have HA2 := Lib.hid (show BlkAt w s (dias v1 (j + 1)) gs (gs + 1) w2 from HA.out.turn hv2 hg2)
              clear hv2 hg2
              go_wp2_with fail
              go_roundw
              case rel => exact ⟨j + 1, by omega, by go_num, HA2.out⟩
              case measure => simp [intOf]; omega
            · obtain rfl : j = 4 := by omega
              rw [show ((4 : Nat) : Int) = 4 from rfl]
              rw [← HD.out] at HA
              go_wp2
              go_roundw
              case rel => exact ⟨k + 1, by omega, by go_num, HA.out⟩
              case measure => simp [intOf]; omega
    · obtain rfl : k = 10 := by omega
      rw [show ((10 : Nat) : Int) = 10 from rfl]
      generalize hv : dbls s 10 = v at *
      have HV := Lib.hid hv
      clear hv
      go_wp2_with (with_reducible refine wpList_alloc_row rfl 28 rfl 64 _ info64 ?_)
      obtain ⟨go, ego⟩ : ∃ go, go = wr.heap.size := ⟨_, rfl⟩
      have HA2 := Lib.hid (show BlkAt w s v gs (gs + 1) (wr.alloc (.cells (row 64 fun _ => .int .u8 0) 28)) from
        ⟨(Below.heap_alloc _ _ _ (Array.getElem?_eq_some_iff.1 HA.out.hr).1).trans HA.out.hr, (Below.heap_alloc _ _ _ (Array.getElem?_eq_some_iff.1 HA.out.hs).1).trans HA.out.hs, (Below.heap_alloc _ _ _ (Array.getElem?_eq_some_iff.1 HA.out.hv).1).trans HA.out.hv, HA.out.ls, HA.out.lv, below_allocS HA.out.hb _⟩)
      have HO := Lib.hid (show (wr.alloc (.cells (row 64 fun _ => .int .u8 0) 28)).heap[go]? = some (.cells (rowB 64 (outCK v s 0)) 28 (0, 0)) from by
        rw [ego]
        exact heap_alloc_new _ _)
      have hgo : gs + 1 < go := by rw [ego]; exact (Array.getElem?_eq_some_iff.1 HA.out.hv).1
      generalize wr.alloc (.cells (row 64 fun _ => .int .u8 0) 28) = W2 at *
      rw [← ego]
      clear ego HA
      go_loopw [52] (fun i wr => ∃ q : Nat, q ≤ 64 ∧ i = .int .i64 q ∧ BlkAt w s v gs (gs + 1) wr ∧ wr.heap[go]? = some (.cells (rowB 64 (outCK v s q)) 28 (0, 0))) (fun i _ => 64 - (intOf i).toNat)
      case atStart => exact ⟨0, by omega, rfl, HA2.out, HO.out⟩
      case round =>
        clear HA2 HO
        obtain ⟨q, hq, rfl, hA, ho⟩ := hrel
        have HA := Lib.hid hA
        have HO := Lib.hid ho
        clear hA ho
        by_cases hlt6 : q < 64
        · have hq0 : (0 : Int) ≤ (q : Int) := by omega
          have hq1 : (q : Int) < 64 := by omega
          have cv : wr.cell? ⟨gs + 1, q / 4, none⟩ = some (.int .u32 (U (v (q / 4)))) := cell_rowU HA.out.hv (by omega)
          have cs : wr.cell? ⟨gs, q / 4, none⟩ = some (.int .u32 (U (s (q / 4)))) := cell_rowU HA.out.hs (by omega)
          have co : wr.cell? ⟨go, q, none⟩ = some (.int .u8 (B8 (outCK v s q q))) := cell_rowB HO.out hlt6
          have fo : wr.frozen? ⟨go, q, none⟩ = false := frozen_of_row wr _ _ _ _ HO.out
          have HOK := Lib.hid (outCK_step v s q)
          have HVAL := Lib.hid (outC_val v s q)
          have hadd := U_add
          have hadd' := U_add'
          obtain ⟨u0, u1⟩ := U_bd (v (q / 4) + s (q / 4))
          have HA2 := Lib.hid (show ∀ x, BlkAt w s v gs (gs + 1) (wr.setCell ⟨go, q, none⟩ x).drew from fun x => by
            have hls := HA.out.ls
            refine ⟨?_, ?_, ?_, HA.out.ls, HA.out.lv, (HA.out.hb.setCell (by simp; omega) _).drew⟩
            · exact (heap_setCell_other _ _ _ _ (by simp; omega)).trans HA.out.hr
            · exact (heap_setCell_other _ _ _ _ (by simp; omega)).trans HA.out.hs
            · exact (heap_setCell_other _ _ _ _ (by simp; omega)).trans HA.out.hv)
          have hr4 : q % 4 = 0 ∨ q % 4 = 1 ∨ q % 4 = 2 ∨ q % 4 = 3 := by omega
          rcases hr4 with hr | hr | hr | hr
          · have hri : (q : Int) % 4 = 0 := by omega
            have HVV := Lib.hid (show U (v (q / 4) + s (q / 4)) % 256 = B8 (outC v s q) from by
              have := HVAL.out 0 hr
              rw [show ((2 ^ (8 * 0) : Nat) : Int) = 1 from rfl] at this
              omega)
            clear hr
            go_wp2_with fail
            have t5 : (q : Int).tmod 4 = 0 := by rw [Int.tmod_eq_emod_of_nonneg hq0]; exact hri
            have t6 : IntKind.i64.wrap 0 = 0 := by decide
            have t1 := IntWalk.i64_in ((q : Int) / 4) (by omega)
            have t2 : (0 : Int) ≤ (q : Int) / 4 := by omega
            have t3 : (q : Int) / 4 < 16 := by omega
            have t4 : ((q : Int) / 4).toNat = q / 4 := by omega
            go_still_tail 16, (by kernel_rfl)
            clear t1 t2 t3 t4 t5 t6
            change wpList _ _ _ _ _ wr.drew
            go_wp2_with fail
            go_roundw
            case rel =>
              rw [HVV.out]
              refine ⟨q + 1, by omega, by go_num, HA2.out _, ?_⟩
              rw [← HOK.out]
              exact heap_set_rowB _ HO.out hlt6
            case measure => simp [intOf]; omega
          · have hri : (q : Int) % 4 = 1 := by omega
            have HVV := Lib.hid (show U (v (q / 4) + s (q / 4)) / 256 % 256 = B8 (outC v s q) from by
              have := HVAL.out 1 hr
              rw [show ((2 ^ (8 * 1) : Nat) : Int) = 256 from rfl] at this
              omega)
            clear hr
            go_wp2_with fail
            have t5 : (q : Int).tmod 4 = 1 := by rw [Int.tmod_eq_emod_of_nonneg hq0]; exact hri
            have t6 : IntKind.i64.wrap 8 = 8 := by decide
            have t1 := IntWalk.i64_in ((q : Int) / 4) (by omega)
            have t2 : (0 : Int) ≤ (q : Int) / 4 := by omega
            have t3 : (q : Int) / 4 < 16 := by omega
            have t4 : ((q : Int) / 4).toNat = q / 4 := by omega
            go_still_tail 16, (by kernel_rfl)
            clear t1 t2 t3 t4 t5 t6
            change wpList _ _ _ _ _ wr.drew
            go_wp2_with fail
            go_roundw
            case rel =>
              rw [HVV.out]
              refine ⟨q + 1, by omega, by go_num, HA2.out _, ?_⟩
              rw [← HOK.out]
              exact heap_set_rowB _ HO.out hlt6
            case measure => simp [intOf]; omega
          · have hri : (q : Int) % 4 = 2 := by omega
            have HVV := Lib.hid (show U (v (q / 4) + s (q / 4)) / 65536 % 256 = B8 (outC v s q) from by
              have := HVAL.out 2 hr
              rw [show ((2 ^ (8 * 2) : Nat) : Int) = 65536 from rfl] at this
              omega)
            clear hr
            go_wp2_with fail
            have t5 : (q : Int).tmod 4 = 2 := by rw [Int.tmod_eq_emod_of_nonneg hq0]; exact hri
            have t6 : IntKind.i64.wrap 16 = 16 := by decide
            have t1 := IntWalk.i64_in ((q : Int) / 4) (by omega)
            have t2 : (0 : Int) ≤ (q : Int) / 4 := by omega
            have t3 : (q : Int) / 4 < 16 := by omega
            have t4 : ((q : Int) / 4).toNat = q / 4 := by omega
            go_still_tail 16, (by kernel_rfl)
            clear t1 t2 t3 t4 t5 t6
            change wpList _ _ _ _ _ wr.drew
            go_wp2_with fail
            go_roundw
            case rel =>
              rw [HVV.out]
              refine ⟨q + 1, by omega, by go_num, HA2.out _, ?_⟩
              rw [← HOK.out]
              exact heap_set_rowB _ HO.out hlt6
            case measure => simp [intOf]; omega
          · have hri : (q : Int) % 4 = 3 := by omega
            have HVV := Lib.hid (show U (v (q / 4) + s (q / 4)) / 16777216 = B8 (outC v s q) from by
              have := HVAL.out 3 hr
              rw [show ((2 ^ (8 * 3) : Nat) : Int) = 16777216 from rfl] at this
              omega)
            clear hr
            go_wp2_with fail
            have t5 : (q : Int).tmod 4 = 3 := by rw [Int.tmod_eq_emod_of_nonneg hq0]; exact hri
            have t6 : IntKind.i64.wrap 24 = 24 := by decide
            have t1 := IntWalk.i64_in ((q : Int) / 4) (by omega)
            have t2 : (0 : Int) ≤ (q : Int) / 4 := by omega
            have t3 : (q : Int) / 4 < 16 := by omega
            have t4 : ((q : Int) / 4).toNat = q / 4 := by omega
            go_still_tail 16, (by kernel_rfl)
            clear t1 t2 t3 t4 t5 t6
            change wpList _ _ _ _ _ wr.drew
            go_wp2_with fail
            go_roundw
            case rel =>
              rw [HVV.out]
              refine ⟨q + 1, by omega, by go_num, HA2.out _, ?_⟩
              rw [← HOK.out]
              exact heap_set_rowB _ HO.out hlt6
            case measure => simp [intOf]; omega
        · obtain rfl : q = 64 := by omega
          rw [show ((64 : Nat) : Int) = 64 from rfl]
          have HZ64 := Lib.hid (show (Try.prog.info? 28).map (·.size) = some (rowB 64 (outCK v s 64)).size by rw [size64, rowB_size])
          go_wp2_with (first
            | ((with_reducible show wpList _ _ _ (⟨_, .load 28 _, _, _, _, _⟩ :: _) _ _); refine wpList_load_row rfl 28 _ rfl go rfl 28 (rowB 64 (outCK v s 64)) (0, 0) _ HO.out Try.underlying28 rfl HZ64.out ?_)
            | ((with_reducible show wpList _ _ _ (⟨_, .store 28 _ _, _, _, _, _⟩ :: _) _ _); refine wpList_store_rowTo rfl 28 _ _ rfl rfl (w.heap.size + 1 + 1) (rowB 64 (outCK v s 64)) rfl rfl 28 _ HA.out.hr HZ64.out (by rw [row_size, rowB_size]) (rowB_oneCell _ _) ?_))
          refine bodyPost_ret (results_cell_row rfl _ _ (w.heap.size + 1 + 1) 28 (rowB 64 (outCK v s 64)) (0, 0) _ rfl (heap_setRow_at HA.out.hr) Try.underlying28 rfl HZ64.out) rfl ?_
          refine ⟨?_, below_setRow HA.out.hb (by omega) _⟩
          rw [outCK_full, ← HV.out, HS0.out]
          rfl

end Go.Proofs.Ytdcndfcdjlpecaa
