/-
  The walk of a block of the stream, by the document's own.
-/
import Derived.Test.YtdcndfcdjlpecaaBlock
namespace Go.Proofs.Ytdcndfcdjlpecaa
open Go.RowKit
set_option linter.unusedVariables false
set_option linter.unusedSimpArgs false

/-- The blocks of the call: a key, a nonce, a result, words. -/
structure RefAt (w : World) (key nonce : Nat → BitVec 8) (s : Nat → BitVec 32) (wr : World) : Prop where
  hk : wr.heap[w.heap.size]? = some (.cells (rowB 32 key) 23 (0, 0))
  hn : wr.heap[w.heap.size + 1]? = some (.cells (rowB 12 nonce) 25 (0, 0))
  hr : wr.heap[w.heap.size + 2]? = some (.cells (row 64 fun _ => .int .u8 0) 28 (0, 0))
  hs : wr.heap[w.heap.size + 3]? = some (.cells (rowU 16 s) 52 (0, 0))
  hb : Below w.heap.size w wr
theorem RefAt.set {w wr : World} {key nonce : Nat → BitVec 8} {s : Nat → BitVec 32} (h : RefAt w key nonce s wr) {i : Nat} (x : BitVec 32) (hi : i < 16) :
    RefAt w key nonce (upd s i x) (wr.setCell ⟨w.heap.size + 1 + 1 + 1, i, none⟩ (.int .u32 (U x))) := by
  refine ⟨?_, ?_, ?_, ?_, h.hb.setCell (by simp; omega) _⟩
  · exact (heap_setCell_other _ _ _ _ (by simp; omega)).trans h.hk
  · exact (heap_setCell_other _ _ _ _ (by simp)).trans h.hn
  · exact (heap_setCell_other _ _ _ _ (by simp)).trans h.hr
  · exact heap_set_rowU _ h.hs hi
theorem RefAt.drewN {w wr : World} {key nonce : Nat → BitVec 8} {s : Nat → BitVec 32} (h : RefAt w key nonce s wr) (m : Nat) : RefAt w key nonce s (wr.drewN m) := ⟨h.hk, h.hn, h.hr, h.hs, below_draws h.hb m⟩

theorem and_low (n : Int) : bits .and .i64 n 4294967295 = n % 4294967296 := by
  show IntKind.i64.wrap ((BitVec.ofInt 64 n &&& BitVec.ofInt 64 4294967295).toNat : Int) = _
  have e : BitVec.ofInt 64 4294967295 = BitVec.ofNat 64 4294967295 := rfl
  rw [e, BitVec.toNat_and, BitVec.toNat_ofInt]
  have e2 : (BitVec.ofNat 64 4294967295).toNat = 2 ^ 32 - 1 := rfl
  rw [e2, Nat.and_two_pow_sub_one_eq_mod, IntKind.wrap_i64]
  omega

theorem andC_out (v s : Nat → BitVec 32) (k r : Nat) (hr : k % 4 = r) : bits .and .u32 (U (v (k / 4) + s (k / 4)) / ((2 ^ (8 * r) : Nat) : Int)) (255 : Int) = B8 (outC v s k) := by
  rw [U_shr]
  have e : (255 : Int) = U 255 := rfl
  rw [e, U_and]
  unfold U B8 outC
  rw [BitVec.toNat_and, BitVec.toNat_setWidth, hr]
  have e2 : (255 : BitVec 32).toNat = 2 ^ 8 - 1 := rfl
  rw [e2, Nat.and_two_pow_sub_one_eq_mod]

theorem refBeg : (#[.int .u32 1634760805, .int .u32 857760878, .int .u32 2036477234, .int .u32 1797285236, .int .u32 0, .int .u32 0, .int .u32 0, .int .u32 0, .int .u32 0, .int .u32 0, .int .u32 0, .int .u32 0, .int .u32 0, .int .u32 0, .int .u32 0, .int .u32 0] : Array Value) = rowU 16 fun i => if i < 4 then sigma i else 0 := by kernel_rfl

theorem dbl_eqs {v0 v1 v2 v3 v4 v5 v6 v7 v8 : Nat → BitVec 32} (h1 : v1 = qr 0 4 8 12 v0) (h2 : v2 = qr 1 5 9 13 v1) (h3 : v3 = qr 2 6 10 14 v2) (h4 : v4 = qr 3 7 11 15 v3) (h5 : v5 = qr 0 5 10 15 v4) (h6 : v6 = qr 1 6 11 12 v5)
    (h7 : v7 = qr 2 7 8 13 v6) (h8 : v8 = qr 3 4 9 14 v7) : dbl v0 = v8 := by
  rw [h8, h7, h6, h5, h4, h3, h2, h1]; rfl

set_option maxRecDepth 100000 in
set_option maxHeartbeats 2000000 in
theorem refBlock_any (key nonce : Nat → BitVec 8) (n : Int) (w : World) :
    Calls Try.prog 13 #[.agg (rowB 32 key), .int .i64 n, .agg (rowB 12 nonce)] w fun e w' => e = .returned (.agg (rowB 64 (blockC key (BitVec.ofInt 32 n) nonce))) ∧ Below w.heap.size w w' := by
  have hcv : IntKind.u32.wrap (n % 4294967296) = U (BitVec.ofInt 32 n) := by rw [IntKind.wrap_u32', U_ofInt]; omega
  have hcv2 : n % 4294967296 = U (BitVec.ofInt 32 n) := by rw [U_ofInt]
  have hand := and_low n
  rw [hcv2] at hand hcv
  have HAND := Lib.hid hand
  have HCV := Lib.hid hcv
  clear hand hcv hcv2
  go_enter Try.func13, Try.ntmps13
  go_wp2_with (with_reducible refine wpList_alloc_row rfl 28 rfl 64 _ info64 ?_)
  rw [refBeg]
  have HA := Lib.hid (show RefAt w key nonce (begK key 0) ((((w.alloc (.cells (rowB 32 key) 23)).alloc (.cells (rowB 12 nonce) 25)).alloc (.cells (row 64 fun _ => .int .u8 0) 28)).alloc (.cells (rowU 16 fun i => if i < 4 then sigma i else 0) 52)) from by
    refine ⟨?_, ?_, ?_, ?_, ?_⟩
    · refine (Below.heap_alloc _ _ _ (by simp; omega)).trans ((Below.heap_alloc _ _ _ (by simp; omega)).trans ((Below.heap_alloc _ _ _ (by simp)).trans (heap_alloc_new _ _)))
    · refine (Below.heap_alloc _ _ _ (by simp)).trans ((Below.heap_alloc _ _ _ (by simp)).trans ?_)
      have := heap_alloc_new (w.alloc (.cells (rowB 32 key) 23)) (.cells (rowB 12 nonce) 25)
      simpa using this
    · refine (Below.heap_alloc _ _ _ (by simp)).trans ?_
      have := heap_alloc_new ((w.alloc (.cells (rowB 32 key) 23)).alloc (.cells (rowB 12 nonce) 25)) (.cells (row 64 fun _ => .int .u8 0) 28)
      simpa using this
    · rw [begK_zero key]
      have := heap_alloc_new (((w.alloc (.cells (rowB 32 key) 23)).alloc (.cells (rowB 12 nonce) 25)).alloc (.cells (row 64 fun _ => .int .u8 0) 28)) (.cells (rowU 16 (begK key 0)) 52)
      simpa using this
    · exact below_allocS (below_allocS (below_allocS (below_allocS (Below.refl _ _) _) _) _) _)
  generalize (((w.alloc (.cells (rowB 32 key) 23)).alloc (.cells (rowB 12 nonce) 25)).alloc (.cells (row 64 fun _ => .int .u8 0) 28)).alloc (.cells (rowU 16 fun i => if i < 4 then sigma i else 0) 52) = W at *
  have hadd := U_add
  go_loopw [8] (fun i wr => ∃ k : Nat, k ≤ 8 ∧ i = .int .i64 k ∧ RefAt w key nonce (begK key k) wr) (fun i _ => 8 - (intOf i).toNat)
  case atStart => exact ⟨0, by omega, rfl, HA.out⟩
  case round =>
    clear HA
    obtain ⟨k, hk, rfl, hA⟩ := hrel
    have HA := Lib.hid hA
    clear hA
    by_cases hlt : k < 8
    · have hk0 : (0 : Int) ≤ (k : Int) := by omega
      have hk1 : (k : Int) < 8 := by omega
      have hsl := key_lo w.heap.size k hlt
      have hw4 := little_any w.heap.size (4 * k) (32 - 4 * k) (32 - 4 * k) (key (4 * k)) (key (4 * k + 1)) (key (4 * k + 2)) (key (4 * k + 3)) wr (by omega) (cell_rowB HA.out.hk (by omega)) (cell_rowB HA.out.hk (by omega)) (cell_rowB HA.out.hk (by omega)) (cell_rowB HA.out.hk (by omega))
      have HW4 := Lib.hid hw4
      clear hw4
      go_wp2_with fail
      refine HW4.out.mono ?_
      rintro e w' ⟨rfl, m, rfl⟩
      clear hsl
      have HAm := Lib.hid (HA.out.drewN m)
      generalize wr.drewN m = wm at *
      have f1 : wm.frozen? ⟨w.heap.size + 1 + 1 + 1, 4 + k, none⟩ = false := frozen_of_row _ _ _ _ _ HAm.out.hs
      have c1 := cell_rowU (i := 4 + k) HAm.out.hs (by omega)
      have c2 : wm.cell? ⟨w.heap.size + 1 + 1 + 1, 4 + k, none⟩ = some (.int .u32 (U (begK key k (4 + k)))) := c1
      clear c1
      go_wp2_with fail
      go_roundw
      case rel => exact ⟨k + 1, by omega, by go_num, by rw [← begK_step key hlt]; exact HAm.out.set _ (by omega)⟩
      case measure => simp [intOf]; omega
    · obtain rfl : k = 8 := by omega
      rw [show ((8 : Nat) : Int) = 8 from rfl]
      have f1 : wr.frozen? ⟨w.heap.size + 1 + 1 + 1, 12, none⟩ = false := frozen_of_row _ _ _ _ _ HA.out.hs
      have c2 : wr.cell? ⟨w.heap.size + 1 + 1 + 1, 12, none⟩ = some (.int .u32 (U (begK key 8 12))) := cell_rowU (i := 12) HA.out.hs (by omega)
      have hand := HAND.out
      have hcv := HCV.out
      go_wp2_with fail
      clear hand hcv
      have HB := Lib.hid (show RefAt w key nonce (begN key (BitVec.ofInt 32 n) nonce 0) (wr.setCell ⟨w.heap.size + 1 + 1 + 1, 12, none⟩ (.int .u32 (U (BitVec.ofInt 32 n)))) from by
        rw [← begN_zero]
        exact HA.out.set _ (by omega))
      generalize wr.setCell ⟨w.heap.size + 1 + 1 + 1, 12, none⟩ (.int .u32 (U (BitVec.ofInt 32 n))) = wb at *
      clear f1 c2 HA
      go_loopw [9] (fun i wr => ∃ k : Nat, k ≤ 3 ∧ i = .int .i64 k ∧ RefAt w key nonce (begN key (BitVec.ofInt 32 n) nonce k) wr) (fun i _ => 3 - (intOf i).toNat)
      case atStart => exact ⟨0, by omega, rfl, HB.out⟩
      case round =>
        clear HB
        obtain ⟨j, hj, rfl, hA⟩ := hrel
        have HA := Lib.hid hA
        clear hA
        by_cases hlt3 : j < 3
        · have hj0 : (0 : Int) ≤ (j : Int) := by omega
          have hj1 : (j : Int) < 3 := by omega
          have hsl := nonce_lo (w.heap.size + 1) j hlt3
          have hw4 := little_any (w.heap.size + 1) (4 * j) (12 - 4 * j) (12 - 4 * j) (nonce (4 * j)) (nonce (4 * j + 1)) (nonce (4 * j + 2)) (nonce (4 * j + 3)) wr (by omega) (cell_rowB HA.out.hn (by omega)) (cell_rowB HA.out.hn (by omega)) (cell_rowB HA.out.hn (by omega)) (cell_rowB HA.out.hn (by omega))
          have HW4 := Lib.hid hw4
          clear hw4
          go_wp2_with fail
          refine HW4.out.mono ?_
          rintro e w' ⟨rfl, m, rfl⟩
          clear hsl
          have HAm := Lib.hid (HA.out.drewN m)
          generalize wr.drewN m = wm at *
          have f1 : wm.frozen? ⟨w.heap.size + 1 + 1 + 1, 13 + j, none⟩ = false := frozen_of_row _ _ _ _ _ HAm.out.hs
          have c1 := cell_rowU (i := 13 + j) HAm.out.hs (by omega)
          have c2 : wm.cell? ⟨w.heap.size + 1 + 1 + 1, 13 + j, none⟩ = some (.int .u32 (U (begN key (BitVec.ofInt 32 n) nonce j (13 + j)))) := c1
          clear c1
          go_wp2_with fail
          go_roundw
          case rel => exact ⟨j + 1, by omega, by go_num, by rw [← begN_step]; exact HAm.out.set _ (by omega)⟩
          case measure => simp [intOf]; omega
        · obtain rfl : j = 3 := by omega
          rw [show ((3 : Nat) : Int) = 3 from rfl]
          have HS16 := Lib.hid (show wr.heap[w.heap.size + 1 + 1 + 1]? = some (.cells (rowU 16 (begS key (BitVec.ofInt 32 n) nonce)) 52 (0, 0)) from by
            rw [← begN_full]
            exact HA.out.hs)
          obtain ⟨s, hs0⟩ : ∃ s, s = begS key (BitVec.ofInt 32 n) nonce := ⟨_, rfl⟩
          rw [← hs0] at HS16
          have HS0 := Lib.hid hs0
          clear hs0
          have HZ16 := Lib.hid (show (Try.prog.info? 52).map (·.size) = some (rowU 16 s).size by rw [size16, rowU_size])
          go_wp2_with (first
            | (with_reducible refine wpList_alloc_row rfl 52 rfl 16 _ info16 ?_)
            | ((with_reducible show wpList _ _ _ (⟨_, .load 52 _, _, _, _, _⟩ :: _) _ _); refine wpList_load_row rfl 52 _ rfl (w.heap.size + 1 + 1 + 1) rfl 52 (rowU 16 s) (0, 0) _ HS16.out Try.underlying52 rfl HZ16.out ?_)
            | ((with_reducible show wpList _ _ _ (⟨_, .store 52 _ _, _, _, _, _⟩ :: _) _ _); refine wpList_store_rowTo rfl 52 _ _ rfl rfl _ (rowU 16 s) rfl rfl 52 _ (heap_alloc_new _ _) HZ16.out (by rw [row_size, rowU_size]) (rowU_oneCell _ _) ?_))
          obtain ⟨gv, egv⟩ : ∃ gv, gv = wr.heap.size := ⟨_, rfl⟩
          have HB := Lib.hid (show BlkAt w s (dbls s 0) (w.heap.size + 1 + 1 + 1) gv ((wr.alloc (.cells (row 16 fun _ => .int .u32 0) 52)).setRow wr.heap.size (rowU 16 s)) from by
            subst egv
            have l1 := (Array.getElem?_eq_some_iff.1 HS16.out).1
            refine ⟨?_, ?_, ?_, by omega, l1, ?_⟩
            · exact (heap_setRow_far (by omega)).trans ((Below.heap_alloc _ _ _ (by omega)).trans HA.out.hr)
            · exact (heap_setRow_far (by omega)).trans ((Below.heap_alloc _ _ _ (by omega)).trans HS16.out)
            · exact heap_setRow_at (heap_alloc_new _ _)
            · exact below_setRow (below_allocS HA.out.hb _) (by omega) _)
          generalize (wr.alloc (.cells (row 16 fun _ => .int .u32 0) 52)).setRow wr.heap.size (rowU 16 s) = wc at *
          rw [← egv]
          clear egv HS16 HA
          go_loopw [11] (fun i wr => ∃ k : Nat, k ≤ 10 ∧ i = .int .i64 k ∧ BlkAt w s (dbls s k) (w.heap.size + 1 + 1 + 1) gv wr) (fun i _ => 10 - (intOf i).toNat)
          case atStart => exact ⟨0, by omega, rfl, HB.out⟩
          case round =>
            clear HB
            obtain ⟨k, hk, rfl, hA⟩ := hrel
            have HX0 := Lib.hid hA
            clear hA
            by_cases hlt : k < 10
            · have hk0 : (0 : Int) ≤ (k : Int) := by omega
              have hk1 : (k : Int) < 10 := by omega
              have HD := Lib.hid (show dbls s (k + 1) = dbl (dbls s k) from rfl)
              generalize dbls s k = v0 at *
              go_wp2_with fail
              refine (refQuarter_any gv 0 4 8 12 v0 _ (by decide) (by decide) (by decide) (by decide) HX0.out.hv).mono ?_
              rintro e w1 ⟨rfl, hx1, hg1⟩
              obtain ⟨v1, hv1⟩ : ∃ v, v = qr 0 4 8 12 v0 := ⟨_, rfl⟩
              rw [← hv1] at hx1
              have HV1 := Lib.hid hv1
              have HX1 := Lib.hid (HX0.out.turn hx1 hg1)
              clear hv1 hx1 hg1 HX0
              go_wp2_with fail
              refine (refQuarter_any gv 1 5 9 13 v1 _ (by decide) (by decide) (by decide) (by decide) HX1.out.hv).mono ?_
              rintro e w2 ⟨rfl, hx2, hg2⟩
              obtain ⟨v2, hv2⟩ : ∃ v, v = qr 1 5 9 13 v1 := ⟨_, rfl⟩
              rw [← hv2] at hx2
              have HV2 := Lib.hid hv2
              have HX2 := Lib.hid (HX1.out.turn hx2 hg2)
              clear hv2 hx2 hg2 HX1
              go_wp2_with fail
              refine (refQuarter_any gv 2 6 10 14 v2 _ (by decide) (by decide) (by decide) (by decide) HX2.out.hv).mono ?_
              rintro e w3 ⟨rfl, hx3, hg3⟩
              obtain ⟨v3, hv3⟩ : ∃ v, v = qr 2 6 10 14 v2 := ⟨_, rfl⟩
              rw [← hv3] at hx3
              have HV3 := Lib.hid hv3
              have HX3 := Lib.hid (HX2.out.turn hx3 hg3)
              clear hv3 hx3 hg3 HX2
              go_wp2_with fail
              refine (refQuarter_any gv 3 7 11 15 v3 _ (by decide) (by decide) (by decide) (by decide) HX3.out.hv).mono ?_
              rintro e w4 ⟨rfl, hx4, hg4⟩
              obtain ⟨v4, hv4⟩ : ∃ v, v = qr 3 7 11 15 v3 := ⟨_, rfl⟩
              rw [← hv4] at hx4
              have HV4 := Lib.hid hv4
              have HX4 := Lib.hid (HX3.out.turn hx4 hg4)
              clear hv4 hx4 hg4 HX3
              go_wp2_with fail
              refine (refQuarter_any gv 0 5 10 15 v4 _ (by decide) (by decide) (by decide) (by decide) HX4.out.hv).mono ?_
              rintro e w5 ⟨rfl, hx5, hg5⟩
              obtain ⟨v5, hv5⟩ : ∃ v, v = qr 0 5 10 15 v4 := ⟨_, rfl⟩
              rw [← hv5] at hx5
              have HV5 := Lib.hid hv5
              have HX5 := Lib.hid (HX4.out.turn hx5 hg5)
              clear hv5 hx5 hg5 HX4
              go_wp2_with fail
              refine (refQuarter_any gv 1 6 11 12 v5 _ (by decide) (by decide) (by decide) (by decide) HX5.out.hv).mono ?_
              rintro e w6 ⟨rfl, hx6, hg6⟩
              obtain ⟨v6, hv6⟩ : ∃ v, v = qr 1 6 11 12 v5 := ⟨_, rfl⟩
              rw [← hv6] at hx6
              have HV6 := Lib.hid hv6
              have HX6 := Lib.hid (HX5.out.turn hx6 hg6)
              clear hv6 hx6 hg6 HX5
              go_wp2_with fail
              refine (refQuarter_any gv 2 7 8 13 v6 _ (by decide) (by decide) (by decide) (by decide) HX6.out.hv).mono ?_
              rintro e w7 ⟨rfl, hx7, hg7⟩
              obtain ⟨v7, hv7⟩ : ∃ v, v = qr 2 7 8 13 v6 := ⟨_, rfl⟩
              rw [← hv7] at hx7
              have HV7 := Lib.hid hv7
              have HX7 := Lib.hid (HX6.out.turn hx7 hg7)
              clear hv7 hx7 hg7 HX6
              go_wp2_with fail
              refine (refQuarter_any gv 3 4 9 14 v7 _ (by decide) (by decide) (by decide) (by decide) HX7.out.hv).mono ?_
              rintro e w8 ⟨rfl, hx8, hg8⟩
              obtain ⟨v8, hv8⟩ : ∃ v, v = qr 3 4 9 14 v7 := ⟨_, rfl⟩
              rw [← hv8] at hx8
              have HV8 := Lib.hid hv8
              have HX8 := Lib.hid (HX7.out.turn hx8 hg8)
              clear hv8 hx8 hg8 HX7
              rw [← dbl_eqs HV1.out HV2.out HV3.out HV4.out HV5.out HV6.out HV7.out HV8.out, ← HD.out] at HX8
              go_wp2_with fail
              go_roundw
              case rel => exact ⟨k + 1, by omega, by go_num, HX8.out⟩
              case measure => simp [intOf]; omega
            · obtain rfl : k = 10 := by omega
              rw [show ((10 : Nat) : Int) = 10 from rfl]
              generalize hv : dbls s 10 = v at *
              have HV := Lib.hid hv
              clear hv
              go_wp2_with (with_reducible refine wpList_alloc_row rfl 28 rfl 64 _ info64 ?_)
              obtain ⟨go, ego⟩ : ∃ go, go = wr.heap.size := ⟨_, rfl⟩
              have HA2 := Lib.hid (show BlkAt w s v (w.heap.size + 1 + 1 + 1) gv (wr.alloc (.cells (row 64 fun _ => .int .u8 0) 28)) from
                ⟨(Below.heap_alloc _ _ _ (Array.getElem?_eq_some_iff.1 HX0.out.hr).1).trans HX0.out.hr, (Below.heap_alloc _ _ _ (Array.getElem?_eq_some_iff.1 HX0.out.hs).1).trans HX0.out.hs, (Below.heap_alloc _ _ _ (Array.getElem?_eq_some_iff.1 HX0.out.hv).1).trans HX0.out.hv, HX0.out.ls, HX0.out.lv, below_allocS HX0.out.hb _⟩)
              have HO := Lib.hid (show (wr.alloc (.cells (row 64 fun _ => .int .u8 0) 28)).heap[go]? = some (.cells (rowB 64 (outCK v s 0)) 28 (0, 0)) from by
                rw [ego]
                exact heap_alloc_new _ _)
              have hgo : gv < go := by rw [ego]; exact (Array.getElem?_eq_some_iff.1 HX0.out.hv).1
              have hgl : w.heap.size + 1 + 1 + 1 < gv := HX0.out.lv
              generalize wr.alloc (.cells (row 64 fun _ => .int .u8 0) 28) = W2 at *
              rw [← ego]
              clear ego HX0
              go_loopw [13] (fun i wr => ∃ q : Nat, q ≤ 64 ∧ i = .int .i64 q ∧ BlkAt w s v (w.heap.size + 1 + 1 + 1) gv wr ∧ wr.heap[go]? = some (.cells (rowB 64 (outCK v s q)) 28 (0, 0))) (fun i _ => 64 - (intOf i).toNat)
              case atStart => exact ⟨0, by omega, rfl, HA2.out, HO.out⟩
              case round =>
                clear HA2 HO
                obtain ⟨q, hq, rfl, hA, ho⟩ := hrel
                have HA := Lib.hid hA
                have HO := Lib.hid ho
                clear hA ho
                by_cases hlt6 : q < 64
                · have hq0 : (0 : Int) ≤ (q : Int) := by omega
                  have hq1 : (q : Int) < 64 := by omega
                  have cv : wr.cell? ⟨gv, q / 4, none⟩ = some (.int .u32 (U (v (q / 4)))) := cell_rowU HA.out.hv (by omega)
                  have cs : wr.cell? ⟨w.heap.size + 1 + 1 + 1, q / 4, none⟩ = some (.int .u32 (U (s (q / 4)))) := cell_rowU HA.out.hs (by omega)
                  have co : wr.cell? ⟨go, q, none⟩ = some (.int .u8 (B8 (outCK v s q q))) := cell_rowB HO.out hlt6
                  have fo : wr.frozen? ⟨go, q, none⟩ = false := frozen_of_row wr _ _ _ _ HO.out
                  have HOK := Lib.hid (outCK_step v s q)
                  have hadd := U_add
                  have hadd' := U_add'
                  obtain ⟨u0, u1⟩ := U_bd (v (q / 4) + s (q / 4))
                  obtain ⟨b0, b1⟩ := B8_bd (outC v s q)
                  have HA2 := Lib.hid (show ∀ x m, BlkAt w s v (w.heap.size + 1 + 1 + 1) gv ((wr.setCell ⟨go, q, none⟩ x).drewN m) from fun x m => by
                    refine ⟨?_, ?_, ?_, HA.out.ls, HA.out.lv, below_draws (HA.out.hb.setCell (by simp; omega) _) m⟩
                    · exact (heap_setCell_other _ _ _ _ (by simp; omega)).trans HA.out.hr
                    · exact (heap_setCell_other _ _ _ _ (by simp; omega)).trans HA.out.hs
                    · exact (heap_setCell_other _ _ _ _ (by simp; omega)).trans HA.out.hv)
                  have hr4 : q % 4 = 0 ∨ q % 4 = 1 ∨ q % 4 = 2 ∨ q % 4 = 3 := by omega
                  rcases hr4 with hr | hr | hr | hr
                  · have hri : (q : Int) % 4 = 0 := by omega
                    have hvv : bits .and .u32 (U (v (q / 4) + s (q / 4))) 255 = B8 (outC v s q) := by
                      have := andC_out v s q 0 hr
                      rw [show ((2 ^ (8 * 0) : Nat) : Int) = 1 from rfl] at this
                      rwa [Int.ediv_one] at this
                    have HVV := Lib.hid hvv
                    clear hr hvv
                    go_wp2_with fail
                    have t1 := IntWalk.i64_in ((q : Int) / 4) (by omega)
                    have t2 : (0 : Int) ≤ (q : Int) / 4 := by omega
                    have t3 : (q : Int) / 4 < 16 := by omega
                    have t4 : ((q : Int) / 4).toNat = q / 4 := by omega
                    go_quiet (fail)
                    clear t1 t2 t3 t4
                    have hvv := HVV.out
                    go_wp2_with fail
                    go_roundw
                    case rel =>
                      refine ⟨q + 1, by omega, by go_num, HA2.out _ _, ?_⟩
                      rw [← HOK.out]
                      exact heap_set_rowB _ HO.out hlt6
                    case measure => simp [intOf]; omega
                  · have hri : (q : Int) % 4 = 1 := by omega
                    have hvv : bits .and .u32 (U (v (q / 4) + s (q / 4)) / 256) 255 = B8 (outC v s q) := by
                      have := andC_out v s q 1 hr
                      rw [show ((2 ^ (8 * 1) : Nat) : Int) = 256 from rfl] at this
                      exact this
                    have HVV := Lib.hid hvv
                    clear hr hvv
                    go_wp2_with fail
                    have t1 := IntWalk.i64_in ((q : Int) / 4) (by omega)
                    have t2 : (0 : Int) ≤ (q : Int) / 4 := by omega
                    have t3 : (q : Int) / 4 < 16 := by omega
                    have t4 : ((q : Int) / 4).toNat = q / 4 := by omega
                    go_quiet (fail)
                    clear t1 t2 t3 t4
                    have hvv := HVV.out
                    go_wp2_with fail
                    go_roundw
                    case rel =>
                      refine ⟨q + 1, by omega, by go_num, HA2.out _ _, ?_⟩
                      rw [← HOK.out]
                      exact heap_set_rowB _ HO.out hlt6
                    case measure => simp [intOf]; omega
                  · have hri : (q : Int) % 4 = 2 := by omega
                    have hvv : bits .and .u32 (U (v (q / 4) + s (q / 4)) / 65536) 255 = B8 (outC v s q) := by
                      have := andC_out v s q 2 hr
                      rw [show ((2 ^ (8 * 2) : Nat) : Int) = 65536 from rfl] at this
                      exact this
                    have HVV := Lib.hid hvv
                    clear hr hvv
                    go_wp2_with fail
                    have t1 := IntWalk.i64_in ((q : Int) / 4) (by omega)
                    have t2 : (0 : Int) ≤ (q : Int) / 4 := by omega
                    have t3 : (q : Int) / 4 < 16 := by omega
                    have t4 : ((q : Int) / 4).toNat = q / 4 := by omega
                    go_quiet (fail)
                    clear t1 t2 t3 t4
                    have hvv := HVV.out
                    go_wp2_with fail
                    go_roundw
                    case rel =>
                      refine ⟨q + 1, by omega, by go_num, HA2.out _ _, ?_⟩
                      rw [← HOK.out]
                      exact heap_set_rowB _ HO.out hlt6
                    case measure => simp [intOf]; omega
                  · have hri : (q : Int) % 4 = 3 := by omega
                    have hvv : bits .and .u32 (U (v (q / 4) + s (q / 4)) / 16777216) 255 = B8 (outC v s q) := by
                      have := andC_out v s q 3 hr
                      rw [show ((2 ^ (8 * 3) : Nat) : Int) = 16777216 from rfl] at this
                      exact this
                    have HVV := Lib.hid hvv
                    clear hr hvv
                    go_wp2_with fail
                    have t1 := IntWalk.i64_in ((q : Int) / 4) (by omega)
                    have t2 : (0 : Int) ≤ (q : Int) / 4 := by omega
                    have t3 : (q : Int) / 4 < 16 := by omega
                    have t4 : ((q : Int) / 4).toNat = q / 4 := by omega
                    go_quiet (fail)
                    clear t1 t2 t3 t4
                    have hvv := HVV.out
                    go_wp2_with fail
                    go_roundw
                    case rel =>
                      refine ⟨q + 1, by omega, by go_num, HA2.out _ _, ?_⟩
                      rw [← HOK.out]
                      exact heap_set_rowB _ HO.out hlt6
                    case measure => simp [intOf]; omega
                · obtain rfl : q = 64 := by omega
                  rw [show ((64 : Nat) : Int) = 64 from rfl]
                  have HZ64 := Lib.hid (show (Try.prog.info? 28).map (·.size) = some (rowB 64 (outCK v s 64)).size by rw [size64, rowB_size])
                  go_wp2_with (first
                    | ((with_reducible show wpList _ _ _ (⟨_, .load 28 _, _, _, _, _⟩ :: _) _ _); refine wpList_load_row rfl 28 _ rfl go rfl 28 (rowB 64 (outCK v s 64)) (0, 0) _ HO.out Try.underlying28 rfl HZ64.out ?_)
                    | ((with_reducible show wpList _ _ _ (⟨_, .store 28 _ _, _, _, _, _⟩ :: _) _ _); refine wpList_store_rowTo rfl 28 _ _ rfl rfl (w.heap.size + 1 + 1) (rowB 64 (outCK v s 64)) rfl rfl 28 _ HA.out.hr HZ64.out (by rw [row_size, rowB_size]) (rowB_oneCell _ _) ?_))
                  refine bodyPost_ret (results_cell_row rfl _ _ (w.heap.size + 1 + 1) 28 (rowB 64 (outCK v s 64)) (0, 0) _ rfl (heap_setRow_at HA.out.hr) Try.underlying28 rfl HZ64.out) rfl ?_
                  refine ⟨?_, below_setRow HA.out.hb (by omega) _⟩
                  rw [outCK_full, ← HV.out, HS0.out]
                  rfl

end Go.Proofs.Ytdcndfcdjlpecaa
