/-
  The walks of the words of a block's beginning.
-/
import Derived.Test.YtdcndfcdjlpecaaQuarter
import Derived.Test.YtdcndfcdjlpecaaCut
import Derived.Great.BuildSlice
namespace Go.Proofs.Ytdcndfcdjlpecaa
open Go.RowKit
set_option linter.unusedVariables false
set_option linter.unusedSimpArgs false

theorem U_conv (x : BitVec 8) : IntKind.u32.wrap (B8 x) = U (wide x) := by
  rw [IntKind.wrap_u32']; unfold B8 U wide; rw [BitVec.toNat_setWidth]; have := x.isLt; omega
theorem U_shl24 (x : BitVec 32) : U x * (16777216 : Int) % (4294967296 : Int) = U (x <<< 24) := U_shl x 24
theorem U_shl16 (x : BitVec 32) : U x * (65536 : Int) % (4294967296 : Int) = U (x <<< 16) := U_shl x 16

set_option maxRecDepth 100000 in
set_option maxHeartbeats 1000000 in
theorem word_any (g o n c : Nat) (x0 x1 x2 x3 : BitVec 8) (w : World) (hn : 4 ≤ n) (h0 : w.cell? ⟨g, o, none⟩ = some (.int .u8 (B8 x0))) (h1 : w.cell? ⟨g, o + 1, none⟩ = some (.int .u8 (B8 x1)))
    (h2 : w.cell? ⟨g, o + 2, none⟩ = some (.int .u8 (B8 x2))) (h3 : w.cell? ⟨g, o + 3, none⟩ = some (.int .u8 (B8 x3))) :
    Calls Try.prog 39 #[.slice (some ⟨g, o, none⟩) n c] w fun e w' => e = .returned (.int .u32 (U (wide x0 ||| wide x1 <<< 8 ||| wide x2 <<< 16 ||| wide x3 <<< 24))) ∧ ∃ m, w' = w.drewN m := by
  have i0 : (0 : Int) < (n : Int) := by omega
  have i1 : (1 : Int) < (n : Int) := by omega
  have i2 : (2 : Int) < (n : Int) := by omega
  have i3 : (3 : Int) < (n : Int) := by omega
  have k0 := U_conv
  have k1 := U_shl8
  have k2 := U_shl16
  have k3 := U_shl24
  have k4 := U_or
  go_enter Try.func39, Try.ntmps39
  go_wp2
  go_quiet (fail)
  go_wp2
  go_ret
  exact ⟨rfl, _, rfl⟩
theorem little_any (g o n c : Nat) (x0 x1 x2 x3 : BitVec 8) (w : World) (hn : 4 ≤ n) (h0 : w.cell? ⟨g, o, none⟩ = some (.int .u8 (B8 x0))) (h1 : w.cell? ⟨g, o + 1, none⟩ = some (.int .u8 (B8 x1)))
    (h2 : w.cell? ⟨g, o + 2, none⟩ = some (.int .u8 (B8 x2))) (h3 : w.cell? ⟨g, o + 3, none⟩ = some (.int .u8 (B8 x3))) :
    Calls Try.prog 33 #[.slice (some ⟨g, o, none⟩) n c] w fun e w' => e = .returned (.int .u32 (U (wide x0 ||| wide x1 <<< 8 ||| wide x2 <<< 16 ||| wide x3 <<< 24))) ∧ ∃ m, w' = w.drewN m := by
  have i0 : (0 : Int) < (n : Int) := by omega
  have i1 : (1 : Int) < (n : Int) := by omega
  have i2 : (2 : Int) < (n : Int) := by omega
  have i3 : (3 : Int) < (n : Int) := by omega
  have k0 := U_conv
  have k1 := U_shl8
  have k2 := U_shl16
  have k3 := U_shl24
  have k4 := U_or
  go_enter Try.func33, Try.ntmps33
  go_wp2
  go_quiet (fail)
  go_wp2
  go_ret
  exact ⟨rfl, _, rfl⟩

theorem info16 : (Try.prog.info? 52).map (fun i => (i.zero, i.size)) = some (some (.agg (row 16 fun _ => .int .u32 0)), 16) := by kernel_rfl
theorem size16 : (Try.prog.info? 52).map (·.size) = some 16 := by kernel_rfl
theorem built16 : Try.prog.built 52 [(0, Value.int .u32 1634760805), (1, Value.int .u32 857760878), (2, Value.int .u32 2036477234), (3, Value.int .u32 1797285236)] = some (rowU 16 fun i => if i < 4 then sigma i else 0) := by kernel_rfl

theorem arr_lo {t e : TypeId} {n : Nat} (ht : Try.prog.underlying t = some (.array n e)) (ha : Try.prog.arrayLen t = n) (he : Try.prog.elem t = e) (hs : ∀ w, (sizeOf e).run Try.prog w = .ok 1 w) (g l : Nat) (h : l < n) (z : Int) (hz : z = (l : Int)) (w : World) :
    (Instr.sliceAt t (.pointer (some ⟨g, 0, none⟩)) (some (.int .i64 z)) none none).run Try.prog w = .ok (.slice (some ⟨g, l, none⟩) (n - l) (n - l)) w := by
  subst hz
  rw [run_sliceAt_array_l w t ⟨g, 0, none⟩ (by rw [ha, he]; exact ht) .i64 (l : Int) (by omega) (by rw [ha]; omega), he, hs]
  simp only [Result.andThen_ok, slicedAt, ha, Int.toNat_natCast, Nat.mul_one]
  rw [if_neg (by omega), add_spot rfl]
  simp
theorem key_lo (g k : Nat) (h : k < 8) (w : World) : (Instr.sliceAt 23 (.pointer (some ⟨g, 0, none⟩)) (some (.int .i64 (4 * (k : Int)))) none none).run Try.prog w = .ok (.slice (some ⟨g, 4 * k, none⟩) (32 - 4 * k) (32 - 4 * k)) w :=
  arr_lo (e := 5) (by kernel_rfl) (by kernel_rfl) (by kernel_rfl) (fun w => by kernel_rfl) g (4 * k) (by omega) _ (by omega) w
theorem nonce_lo (g k : Nat) (h : k < 3) (w : World) : (Instr.sliceAt 25 (.pointer (some ⟨g, 0, none⟩)) (some (.int .i64 (4 * (k : Int)))) none none).run Try.prog w = .ok (.slice (some ⟨g, 4 * k, none⟩) (12 - 4 * k) (12 - 4 * k)) w :=
  arr_lo (e := 5) (by kernel_rfl) (by kernel_rfl) (by kernel_rfl) (fun w => by kernel_rfl) g (4 * k) (by omega) _ (by omega) w

/-- The first words, up to k of the key's. -/
def begK (key : Nat → BitVec 8) (k : Nat) : Nat → BitVec 32 := fun i => if i < 4 then sigma i else if i < 4 + k then le4 key (4 * (i - 4)) else 0
def begN (key : Nat → BitVec 8) (c : BitVec 32) (nonce : Nat → BitVec 8) (k : Nat) : Nat → BitVec 32 := fun i => if i < 4 then sigma i else if i < 12 then le4 key (4 * (i - 4)) else if i = 12 then c else if i < 13 + k then le4 nonce (4 * (i - 13)) else 0
theorem begK_zero (key : Nat → BitVec 8) : (fun i => if i < 4 then sigma i else (0 : BitVec 32)) = begK key 0 := by
  funext i; unfold begK
  by_cases h : i < 4
  · rw [if_pos h, if_pos h]
  · rw [if_neg h, if_neg h, if_neg (by omega)]
theorem begK_step (key : Nat → BitVec 8) {k : Nat} (h : k < 8) : upd (begK key k) (4 + k) (le4 key (4 * k)) = begK key (k + 1) := by
  funext i; unfold upd begK
  by_cases e : i = 4 + k
  · subst e; rw [if_pos rfl, if_neg (by omega), if_pos (by omega)]; congr 1; omega
  · rw [if_neg e]
    by_cases h4 : i < 4
    · rw [if_pos h4, if_pos h4]
    · rw [if_neg h4, if_neg h4]
      by_cases h5 : i < 4 + k
      · rw [if_pos h5, if_pos (by omega)]
      · rw [if_neg h5, if_neg (by omega)]
theorem begN_zero (key : Nat → BitVec 8) (c : BitVec 32) (nonce : Nat → BitVec 8) : upd (begK key 8) 12 c = begN key c nonce 0 := by
  funext i; unfold upd begK begN
  by_cases e : i = 12
  · subst e; rfl
  · rw [if_neg e]
    by_cases h4 : i < 4
    · rw [if_pos h4, if_pos h4]
    · rw [if_neg h4, if_neg h4]
      by_cases h5 : i < 12
      · rw [if_pos (by omega), if_pos h5]
      · rw [if_neg (by omega), if_neg h5, if_neg e, if_neg (by omega)]
theorem begN_step (key : Nat → BitVec 8) (c : BitVec 32) (nonce : Nat → BitVec 8) (k : Nat) : upd (begN key c nonce k) (13 + k) (le4 nonce (4 * k)) = begN key c nonce (k + 1) := by
  funext i; unfold upd begN
  by_cases e : i = 13 + k
  · subst e; rw [if_pos rfl, if_neg (by omega), if_neg (by omega), if_neg (by omega), if_pos (by omega)]; congr 1; omega
  · rw [if_neg e]
    by_cases h4 : i < 4
    · rw [if_pos h4, if_pos h4]
    · rw [if_neg h4, if_neg h4]
      by_cases h5 : i < 12
      · rw [if_pos h5, if_pos h5]
      · rw [if_neg h5, if_neg h5]
        by_cases h6 : i = 12
        · rw [if_pos h6, if_pos h6]
        · rw [if_neg h6, if_neg h6]
          by_cases h7 : i < 13 + k
          · rw [if_pos h7, if_pos (by omega)]
          · rw [if_neg h7, if_neg (by omega)]
theorem begN_full (key : Nat → BitVec 8) (c : BitVec 32) (nonce : Nat → BitVec 8) : rowU 16 (begN key c nonce 3) = rowU 16 (begS key c nonce) := row_congr fun i hi => by
  unfold begN begS
  by_cases h4 : i < 4
  · rw [if_pos h4, if_pos h4]
  · rw [if_neg h4, if_neg h4]
    by_cases h5 : i < 12
    · rw [if_pos h5, if_pos h5]
    · rw [if_neg h5, if_neg h5]
      by_cases h6 : i = 12
      · rw [if_pos h6, if_pos h6]
      · rw [if_neg h6, if_neg h6, if_pos (by omega)]

theorem below_allocS {W w' : World} (h : Below W.heap.size W w') (o : Obj) : Below W.heap.size W (w'.alloc o) := h.alloc h.size o
theorem below_keep {W w' w1 : World} (h : Below W.heap.size W w') (hb : Below w'.heap.size w' w1) : Below W.heap.size W w1 := h.trans (hb.mono h.size)
theorem below_draws {B : Nat} {a w : World} (h : Below B a w) (n : Nat) : Below B a (w.drewN n) := h.trans ⟨rfl, rfl, rfl, Nat.le_refl _, fun _ _ => rfl⟩

/-- The blocks of a call that lays a key, a nonce, a result, words. -/
structure BegAt (w : World) (key nonce : Nat → BitVec 8) (s : Nat → BitVec 32) (wr : World) : Prop where
  hk : wr.heap[w.heap.size]? = some (.cells (rowB 32 key) 23 (0, 0))
  hn : wr.heap[w.heap.size + 1]? = some (.cells (rowB 12 nonce) 25 (0, 0))
  hr : wr.heap[w.heap.size + 2]? = some (.cells (row 16 fun _ => .int .u32 0) 52 (0, 0))
  hs : wr.heap[w.heap.size + 3]? = some (.cells (rowU 16 s) 52 (0, 0))
  hb : Below w.heap.size w wr

set_option maxRecDepth 100000 in
set_option maxHeartbeats 1000000 in
theorem begin_any (key nonce : Nat → BitVec 8) (c : BitVec 32) (w : World) :
    Calls Try.prog 31 #[.agg (rowB 32 key), .int .u32 (U c), .agg (rowB 12 nonce)] w fun e w' => e = .returned (.agg (rowU 16 (begS key c nonce))) ∧ Below w.heap.size w w' := by
  have HZ := Lib.hid (show (Try.prog.info? 52).map (·.size) = some (rowU 16 fun i => if i < 4 then sigma i else 0).size by rw [size16, rowU_size])
  go_enter Try.func31, Try.ntmps31
  go_wp2_with (first
    | (with_reducible refine wpList_alloc_row rfl 52 rfl 16 _ info16 ?_)
    | (refine wpList_buildTo rfl 52 _ rfl _ rfl (rowU 16 fun i => if i < 4 then sigma i else 0) built16 ?_)
    | ((with_reducible show wpList _ _ _ (⟨_, .store 52 _ _, _, _, _, _⟩ :: _) _ _); refine wpList_store_rowTo rfl 52 _ _ rfl rfl _ (rowU 16 fun i => if i < 4 then sigma i else 0) rfl rfl 52 _ (heap_alloc_new _ _) HZ.out (by rw [row_size, rowU_size]) (rowU_oneCell _ _) ?_))
  have HA := Lib.hid (show BegAt w key nonce (begK key 0) (((((w.alloc (.cells (rowB 32 key) 23)).alloc (.cells (rowB 12 nonce) 25)).alloc (.cells (row 16 fun _ => .int .u32 0) 52)).alloc (.cells (row 16 fun _ => .int .u32 0) 52)).setRow (w.heap.size + 1 + 1 + 1) (rowU 16 fun i => if i < 4 then sigma i else 0)) from by
    refine ⟨?_, ?_, ?_, ?_, ?_⟩
    · refine (heap_setRow_far (by omega)).trans ?_
      refine (Below.heap_alloc _ _ _ (by simp; omega)).trans ((Below.heap_alloc _ _ _ (by simp; omega)).trans ((Below.heap_alloc _ _ _ (by simp)).trans (heap_alloc_new _ _)))
    · refine (heap_setRow_far (by omega)).trans ?_
      refine (Below.heap_alloc _ _ _ (by simp)).trans ((Below.heap_alloc _ _ _ (by simp)).trans ?_)
      have := heap_alloc_new (w.alloc (.cells (rowB 32 key) 23)) (.cells (rowB 12 nonce) 25)
      simpa using this
    · refine (heap_setRow_far (by omega)).trans ?_
      refine (Below.heap_alloc _ _ _ (by simp)).trans ?_
      have := heap_alloc_new ((w.alloc (.cells (rowB 32 key) 23)).alloc (.cells (rowB 12 nonce) 25)) (.cells (row 16 fun _ => .int .u32 0) 52)
      simpa using this
    · rw [begK_zero key]
      refine heap_setRow_at (c := row 16 fun _ => .int .u32 0) ?_
      have := heap_alloc_new (((w.alloc (.cells (rowB 32 key) 23)).alloc (.cells (rowB 12 nonce) 25)).alloc (.cells (row 16 fun _ => .int .u32 0) 52)) (.cells (row 16 fun _ => .int .u32 0) 52)
      simpa using this
    · exact below_setRow (below_allocS (below_allocS (below_allocS (below_allocS (Below.refl _ _) _) _) _) _) (by omega) _)
  generalize ((((w.alloc (.cells (rowB 32 key) 23)).alloc (.cells (rowB 12 nonce) 25)).alloc (.cells (row 16 fun _ => .int .u32 0) 52)).alloc (.cells (row 16 fun _ => .int .u32 0) 52)).setRow (w.heap.size + 1 + 1 + 1) (rowU 16 fun i => if i < 4 then sigma i else 0) = W at *
  have hadd := U_add
  go_loopw [11] (fun i wr => ∃ k : Nat, k ≤ 8 ∧ i = .int .i64 k ∧ BegAt w key nonce (begK key k) wr) (fun i _ => 8 - (intOf i).toNat)
  case atStart => exact ⟨0, by omega, rfl, HA.out⟩
  case round =>
    clear HA
    obtain ⟨k, hk, rfl, hA⟩ := hrel
    have HA := Lib.hid hA
    clear hA
    by_cases hlt : k < 8
    · have hk0 : (0 : Int) ≤ (k : Int) := by omega
      have hk1 : (k : Int) < 8 := by omega
      have hsl := key_lo w.heap.size k hlt
      have hw4 := word_any w.heap.size (4 * k) (32 - 4 * k) (32 - 4 * k) (key (4 * k)) (key (4 * k + 1)) (key (4 * k + 2)) (key (4 * k + 3)) wr (by omega) (cell_rowB HA.out.hk (by omega)) (cell_rowB HA.out.hk (by omega)) (cell_rowB HA.out.hk (by omega)) (cell_rowB HA.out.hk (by omega))
      have HW4 := Lib.hid hw4
      clear hw4
      go_wp2_with fail
      refine HW4.out.mono ?_
      rintro e w' ⟨rfl, m, rfl⟩
      clear hsl
      have HAm := Lib.hid (show BegAt w key nonce (begK key k) (wr.drewN m) from ⟨HA.out.hk, HA.out.hn, HA.out.hr, HA.out.hs, below_draws HA.out.hb m⟩)
      generalize wr.drewN m = wm at *
      have f1 : wm.frozen? ⟨w.heap.size + 1 + 1 + 1, 4 + k, none⟩ = false := frozen_of_row _ _ _ _ _ HAm.out.hs
      have c1 := cell_rowU (i := 4 + k) HAm.out.hs (by omega)
      have c2 : wm.cell? ⟨w.heap.size + 1 + 1 + 1, 4 + k, none⟩ = some (.int .u32 (U (begK key k (4 + k)))) := c1
      clear c1
      go_wp2_with fail
      go_roundw
      case rel =>
        refine ⟨k + 1, by omega, by go_num, ?_, ?_, ?_, ?_, ?_⟩
        · exact (heap_setCell_other _ _ _ _ (by simp; omega)).trans HAm.out.hk
        · exact (heap_setCell_other _ _ _ _ (by simp)).trans HAm.out.hn
        · exact (heap_setCell_other _ _ _ _ (by simp)).trans HAm.out.hr
        · rw [← begK_step key hlt]
          exact heap_set_rowU _ HAm.out.hs (by omega)
        · exact HAm.out.hb.setCell (by simp; omega) _
      case measure => simp [intOf]; omega
    · obtain rfl : k = 8 := by omega
      rw [show ((8 : Nat) : Int) = 8 from rfl]
      have f1 : wr.frozen? ⟨w.heap.size + 1 + 1 + 1, 12, none⟩ = false := frozen_of_row _ _ _ _ _ HA.out.hs
      have c2 : wr.cell? ⟨w.heap.size + 1 + 1 + 1, 12, none⟩ = some (.int .u32 (U (begK key 8 12))) := cell_rowU (i := 12) HA.out.hs (by omega)
      go_wp2_with fail
      have HB := Lib.hid (show BegAt w key nonce (begN key c nonce 0) (wr.setCell ⟨w.heap.size + 1 + 1 + 1, 12, none⟩ (.int .u32 (U c))) from by
        refine ⟨?_, ?_, ?_, ?_, ?_⟩
        · exact (heap_setCell_other _ _ _ _ (by simp; omega)).trans HA.out.hk
        · exact (heap_setCell_other _ _ _ _ (by simp)).trans HA.out.hn
        · exact (heap_setCell_other _ _ _ _ (by simp)).trans HA.out.hr
        · rw [← begN_zero key c nonce]
          exact heap_set_rowU _ HA.out.hs (by omega)
        · exact HA.out.hb.setCell (by simp; omega) _)
      generalize wr.setCell ⟨w.heap.size + 1 + 1 + 1, 12, none⟩ (.int .u32 (U c)) = wb at *
      clear f1 c2 HA
      go_loopw [24] (fun i wr => ∃ k : Nat, k ≤ 3 ∧ i = .int .i64 k ∧ BegAt w key nonce (begN key c nonce k) wr) (fun i _ => 3 - (intOf i).toNat)
      case atStart => exact ⟨0, by omega, rfl, HB.out⟩
      case round =>
        clear HB
        obtain ⟨j, hj, rfl, hA⟩ := hrel
        have HA := Lib.hid hA
        clear hA
        by_cases hlt3 : j < 3
        · have hj0 : (0 : Int) ≤ (j : Int) := by omega
          have hj1 : (j : Int) < 3 := by omega
          have hsl := nonce_lo (w.heap.size + 1) j hlt3
          have hw4 := word_any (w.heap.size + 1) (4 * j) (12 - 4 * j) (12 - 4 * j) (nonce (4 * j)) (nonce (4 * j + 1)) (nonce (4 * j + 2)) (nonce (4 * j + 3)) wr (by omega) (cell_rowB HA.out.hn (by omega)) (cell_rowB HA.out.hn (by omega)) (cell_rowB HA.out.hn (by omega)) (cell_rowB HA.out.hn (by omega))
          have HW4 := Lib.hid hw4
          clear hw4
          go_wp2_with fail
          refine HW4.out.mono ?_
          rintro e w' ⟨rfl, m, rfl⟩
          clear hsl
          have HAm := Lib.hid (show BegAt w key nonce (begN key c nonce j) (wr.drewN m) from ⟨HA.out.hk, HA.out.hn, HA.out.hr, HA.out.hs, below_draws HA.out.hb m⟩)
          generalize wr.drewN m = wm at *
          have f1 : wm.frozen? ⟨w.heap.size + 1 + 1 + 1, 13 + j, none⟩ = false := frozen_of_row _ _ _ _ _ HAm.out.hs
          have c1 := cell_rowU (i := 13 + j) HAm.out.hs (by omega)
          have c2 : wm.cell? ⟨w.heap.size + 1 + 1 + 1, 13 + j, none⟩ = some (.int .u32 (U (begN key c nonce j (13 + j)))) := c1
          clear c1
          go_wp2_with fail
          go_roundw
          case rel =>
            refine ⟨j + 1, by omega, by go_num, ?_, ?_, ?_, ?_, ?_⟩
            · exact (heap_setCell_other _ _ _ _ (by simp; omega)).trans HAm.out.hk
            · exact (heap_setCell_other _ _ _ _ (by simp)).trans HAm.out.hn
            · exact (heap_setCell_other _ _ _ _ (by simp)).trans HAm.out.hr
            · rw [← begN_step key c nonce j]
              exact heap_set_rowU _ HAm.out.hs (by omega)
            · exact HAm.out.hb.setCell (by simp; omega) _
          case measure => simp [intOf]; omega
        · obtain rfl : j = 3 := by omega
          have HZ16 := Lib.hid (show (Try.prog.info? 52).map (·.size) = some (rowU 16 (begN key c nonce 3)).size by rw [size16, rowU_size])
          go_wp2_with (first
            | ((with_reducible show wpList _ _ _ (⟨_, .load 52 _, _, _, _, _⟩ :: _) _ _); refine wpList_load_row rfl 52 _ rfl (w.heap.size + 1 + 1 + 1) rfl 52 (rowU 16 (begN key c nonce 3)) (0, 0) _ HA.out.hs Try.underlying52 rfl HZ16.out ?_)
            | ((with_reducible show wpList _ _ _ (⟨_, .store 52 _ _, _, _, _, _⟩ :: _) _ _); refine wpList_store_rowTo rfl 52 _ _ rfl rfl (w.heap.size + 1 + 1) (rowU 16 (begN key c nonce 3)) rfl rfl 52 _ HA.out.hr HZ16.out (by rw [row_size, rowU_size]) (rowU_oneCell _ _) ?_))
          refine bodyPost_ret (results_cell_row rfl _ _ (w.heap.size + 1 + 1) 52 (rowU 16 (begN key c nonce 3)) (0, 0) _ rfl (heap_setRow_at HA.out.hr) Try.underlying52 rfl HZ16.out) rfl ?_
          exact ⟨by rw [begN_full], below_setRow HA.out.hb (by omega) _⟩

end Go.Proofs.Ytdcndfcdjlpecaa
