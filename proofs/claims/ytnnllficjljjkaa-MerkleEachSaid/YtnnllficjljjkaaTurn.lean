/-
  The walk of sha's turn: it sums up the block that lies in the state.
-/
import Derived.Test.YtnnllficjljjkaaState
namespace Go.Proofs.Ytnnllficjljjkaa
open Go.RowKit

/-- What holds at every round's head. -/
def TurnAt (sb : Nat) (h : Nat → BitVec 32) (b : Nat → BitVec 8) (n : Nat) (L : BitVec 64) (w : World) (a' : Act) (w' : World) : Prop :=
  ∃ (t wb vb : Nat) (u : Nat → Value), t ≤ 64 ∧ w.heap.size ≤ wb ∧ wb < vb ∧
    a' = { tmps := #[.pointer (some ⟨sb, 0, none⟩), u 1, .pointer (some ⟨wb, 0, none⟩), .pointer (some ⟨vb, 0, none⟩), .int .i64 t, u 5, u 6, u 7, u 8, u 9, u 10, u 11, u 12, u 13, u 14, u 15, u 16, u 17, u 18, u 19, u 20, u 21, u 22, u 23, u 24, u 25, u 26, u 27, u 28, u 29, u 30, u 31, u 32, u 33, u 34, u 35, u 36, u 37, u 38, u 39, u 40, u 41, u 42, u 43, u 44, u 45, u 46, u 47, u 48, u 49, u 50, u 51, u 52, u 53, u 54, u 55, u 56, u 57, u 58, u 59, u 60, u 61, u 62, u 63, u 64, u 65, u 66, u 67, u 68, u 69, u 70, u 71, u 72, u 73, u 74, u 75, u 76, u 77, u 78, u 79, u 80, u 81, u 82, u 83, u 84, u 85, u 86, u 87, u 88, u 89, u 90, u 91, u 92, u 93, u 94, u 95, u 96, u 97, u 98, u 99, u 100, u 101, u 102, u 103, u 104, u 105, u 106, u 107, u 108, u 109, u 110, u 111, u 112, u 113, u 114, u 115, u 116, u 117, u 118, u 119, u 120, u 121], defers := [] } ∧
    w'.heap[sb]? = some (.cells (stRow h b n L) 50 (0, 0)) ∧ w'.heap[wb]? = some (.cells (rowU 64 (sched b)) 46 (0, 0)) ∧
    w'.heap[vb]? = some (.cells (rowU 8 (rnds K256 (sched b) h t)) 45 (0, 0)) ∧ w.grownBy w' (some sb)

theorem turnAt_mk {sb n : Nat} {h : Nat → BitVec 32} {b : Nat → BitVec 8} {L : BitVec 64} {w w' : World} {tm : Array Value} (t wb vb : Nat) (ht : t ≤ 64) (hwb : w.heap.size ≤ wb) (hvb : wb < vb)
    (he : ({ tmps := tm, defers := [] } : Act) = { tmps := #[.pointer (some ⟨sb, 0, none⟩), tm.getD 1 undef, .pointer (some ⟨wb, 0, none⟩), .pointer (some ⟨vb, 0, none⟩), .int .i64 t, tm.getD 5 undef, tm.getD 6 undef, tm.getD 7 undef, tm.getD 8 undef, tm.getD 9 undef, tm.getD 10 undef, tm.getD 11 undef, tm.getD 12 undef, tm.getD 13 undef, tm.getD 14 undef, tm.getD 15 undef, tm.getD 16 undef, tm.getD 17 undef, tm.getD 18 undef, tm.getD 19 undef, tm.getD 20 undef, tm.getD 21 undef, tm.getD 22 undef, tm.getD 23 undef, tm.getD 24 undef, tm.getD 25 undef, tm.getD 26 undef, tm.getD 27 undef, tm.getD 28 undef, tm.getD 29 undef, tm.getD 30 undef, tm.getD 31 undef, tm.getD 32 undef, tm.getD 33 undef, tm.getD 34 undef, tm.getD 35 undef, tm.getD 36 undef, tm.getD 37 undef, tm.getD 38 undef, tm.getD 39 undef, tm.getD 40 undef, tm.getD 41 undef, tm.getD 42 undef, tm.getD 43 undef, tm.getD 44 undef, tm.getD 45 undef, tm.getD 46 undef, tm.getD 47 undef, tm.getD 48 undef, tm.getD 49 undef, tm.getD 50 undef, tm.getD 51 undef, tm.getD 52 undef, tm.getD 53 undef, tm.getD 54 undef, tm.getD 55 undef, tm.getD 56 undef, tm.getD 57 undef, tm.getD 58 undef, tm.getD 59 undef, tm.getD 60 undef, tm.getD 61 undef, tm.getD 62 undef, tm.getD 63 undef, tm.getD 64 undef, tm.getD 65 undef, tm.getD 66 undef, tm.getD 67 undef, tm.getD 68 undef, tm.getD 69 undef, tm.getD 70 undef, tm.getD 71 undef, tm.getD 72 undef, tm.getD 73 undef, tm.getD 74 undef, tm.getD 75 undef, tm.getD 76 undef, tm.getD 77 undef, tm.getD 78 undef, tm.getD 79 undef, tm.getD 80 undef, tm.getD 81 undef, tm.getD 82 undef, tm.getD 83 undef, tm.getD 84 undef, tm.getD 85 undef, tm.getD 86 undef, tm.getD 87 undef, tm.getD 88 undef, tm.getD 89 undef, tm.getD 90 undef, tm.getD 91 undef, tm.getD 92 undef, tm.getD 93 undef, tm.getD 94 undef, tm.getD 95 undef, tm.getD 96 undef, tm.getD 97 undef, tm.getD 98 undef, tm.getD 99 undef, tm.getD 100 undef, tm.getD 101 undef, tm.getD 102 undef, tm.getD 103 undef, tm.getD 104 undef, tm.getD 105 undef, tm.getD 106 undef, tm.getD 107 undef, tm.getD 108 undef, tm.getD 109 undef, tm.getD 110 undef, tm.getD 111 undef, tm.getD 112 undef, tm.getD 113 undef, tm.getD 114 undef, tm.getD 115 undef, tm.getD 116 undef, tm.getD 117 undef, tm.getD 118 undef, tm.getD 119 undef, tm.getD 120 undef, tm.getD 121 undef], defers := [] })
    (h1 : w'.heap[sb]? = some (.cells (stRow h b n L) 50 (0, 0))) (h2 : w'.heap[wb]? = some (.cells (rowU 64 (sched b)) 46 (0, 0)))
    (h3 : w'.heap[vb]? = some (.cells (rowU 8 (rnds K256 (sched b) h t)) 45 (0, 0))) (h4 : w.grownBy w' (some sb)) : TurnAt sb h b n L w { tmps := tm, defers := [] } w' :=
  ⟨t, wb, vb, fun i => tm.getD i undef, ht, hwb, hvb, he, h1, h2, h3, h4⟩

theorem info8 : (Try.prog.info? 45).map (fun i => (i.zero, i.size)) = some (some (.agg (row 8 fun _ => .int .u32 0)), 8) := by kernel_rfl
theorem size8 : (Try.prog.info? 45).map (·.size) = some 8 := by kernel_rfl

/-- The words to which the first k have been added. -/
def addTo (h v : Nat → BitVec 32) (k : Nat) : Nat → BitVec 32 := fun i => if i < k then h i + v i else h i

theorem stRow_step {h v : Nat → BitVec 32} {b : Nat → BitVec 8} {n : Nat} {L : BitVec 64} {k : Nat} (hk : k < 8) :
    row 138 (upd (stF (addTo h v k) b n L) k (.int .u32 (U (h k + v k)))) = stRow (addTo h v (k + 1)) b n L := row_congr fun i _ => by
  unfold upd stF addTo
  by_cases e : i = k
  · subst e; simp [hk]
  · rw [if_neg e]
    by_cases h8 : i < 8
    · rw [if_pos h8, if_pos h8]
      by_cases hik : i < k
      · rw [if_pos hik, if_pos (by omega)]
      · rw [if_neg hik, if_neg (by omega)]
    · rw [if_neg h8, if_neg h8]

theorem stRow_congr {h h' : Nat → BitVec 32} {b : Nat → BitVec 8} {n : Nat} {L : BitVec 64} (he : ∀ i, i < 8 → h i = h' i) : stRow h b n L = stRow h' b n L := row_congr fun i _ => by
  unfold stF
  by_cases h8 : i < 8
  · rw [if_pos h8, if_pos h8, he i h8]
  · rw [if_neg h8, if_neg h8]

set_option maxRecDepth 100000 in
set_option maxHeartbeats 400000 in
theorem turn_any (sb : Nat) (h : Nat → BitVec 32) (b : Nat → BitVec 8) (n : Nat) (L : BitVec 64) (w : World) (hg : w.heap[sb]? = some (.cells (stRow h b n L) 50 (0, 0))) :
    Calls Try.prog 26 #[.pointer (some ⟨sb, 0, none⟩)] w fun e w' => e = .returned (.tuple #[]) ∧ w'.heap[sb]? = some (.cells (stRow (block K256 h b) b n L) 50 (0, 0)) ∧ w.grownBy w' (some sb) := by
  have HSZ := Lib.hid (Array.getElem?_eq_some_iff.1 hg).1
  have HG := Lib.hid hg
  clear hg
  go_enter Try.func26, Try.ntmps26
  refine wp_scope_from 0 (TurnAt sb h b n L w) (fun a' _ => 64 - (intOf (a'.tmps.getD 4 undef)).toNat) rfl ?_ ?_
  · rintro a' wr ⟨t, wb, vb, u, ht, hwb, hvb, rfl, hs, hw, hv, hgr⟩
    by_cases hlt : t < 64
    · have h0 : (0 : Int) ≤ (t : Int) := by omega
      have h1 : (t : Int) < 64 := by omega
      have cw : wr.cell? ⟨wb, t, none⟩ = some (.int .u32 (U (sched b t))) := cell_rowU hw hlt
      have ck : wr.cell? ⟨sb, 8 + t, none⟩ = some (.int .u32 (U (K256 t))) := by
        rw [cell_row hs (by omega)]; unfold stF; rw [if_neg (by omega), if_pos (by omega)]; simp
      have HV := Lib.hid hv
      have HS := Lib.hid hs
      have HW := Lib.hid hw
      clear hs hw
      have hn : rnds K256 (sched b) h (t + 1) = rnd K256 (sched b) t (rnds K256 (sched b) h t) := rfl
      have HN := Lib.hid hn
      clear hn
      generalize rnds K256 (sched b) h t = v at *
      have c0 := cell_rowU (i := 0) hv (by decide)
      have c1 := cell_rowU (i := 1) hv (by decide)
      have c2 := cell_rowU (i := 2) hv (by decide)
      have c3 := cell_rowU (i := 3) hv (by decide)
      have c4 := cell_rowU (i := 4) hv (by decide)
      have c5 := cell_rowU (i := 5) hv (by decide)
      have c6 := cell_rowU (i := 6) hv (by decide)
      have c7 := cell_rowU (i := 7) hv (by decide)
      clear hv
      have hadd := U_add
      have hxor := U_xor
      have hand := U_and
      have hnot := U_not
      have hadd' := U_add'
      go_wp2
      go_quiet (fail)
      go_wp2_with fail
      refine (rot6 _ _).mono ?_; rintro e w' ⟨rfl, rfl⟩
      go_wp2_with fail
      refine (rot11 _ _).mono ?_; rintro e w' ⟨rfl, rfl⟩
      go_wp2_with fail
      refine (rot25 _ _).mono ?_; rintro e w' ⟨rfl, rfl⟩
      go_wp2_with fail
      refine (rot2 _ _).mono ?_; rintro e w' ⟨rfl, rfl⟩
      go_wp2_with fail
      refine (rot13 _ _).mono ?_; rintro e w' ⟨rfl, rfl⟩
      go_wp2_with fail
      refine (rot22 _ _).mono ?_; rintro e w' ⟨rfl, rfl⟩
      go_wp2_with fail
      go_quiet (fail)
      have HV2 := Lib.hid (show ∀ m, (wr.drewN m).heap[vb]? = some (.cells (rowU 8 v) 45 (0, 0)) from fun _ => HV.out)
      have HZ8 := Lib.hid (show (Try.prog.info? 45).map (·.size) = some (rowU 8 (rnd K256 (sched b) t v)).size by rw [size8, rowU_size])
      go_wp2_with ((with_reducible show wpList _ _ _ (⟨_, .store _ _ _, _, _, _, _⟩ :: _) _ _); refine wpList_store_rowTo rfl 45 _ _ rfl rfl vb (rowU 8 (rnd K256 (sched b) t v)) rfl rfl 45 _ (HV2.out _) HZ8.out (by rw [rowU_size, rowU_size]) (rowU_oneCell _ _) ?_)
      go_step3
      refine ⟨rfl, turnAt_mk (t + 1) wb vb (by omega) hwb hvb rfl ?_ ?_ ?_ ?_, ?_⟩
      · have hne : sb ≠ vb := by have := HSZ.out; omega
        exact (heap_setRow_far hne).trans HS.out
      · have hne : wb ≠ vb := by omega
        exact (heap_setRow_far hne).trans HW.out
      · rw [HN.out]
        exact heap_setRow_at (HV2.out _)
      · exact grown_setRow (grown_drewN hgr _) (.inl (by omega)) _
      · simp [intOf]; omega
    · have hE : rnds K256 (sched b) h t = rnds K256 (sched b) h 64 := by rw [show t = 64 by omega]
      rw [hE] at hv
      have HBL := Lib.hid (show ∀ i, i < 8 → addTo h (rnds K256 (sched b) h 64) 8 i = block K256 h b i from fun i hi => by unfold addTo; rw [if_pos hi]; rfl)
      clear hE hw
      generalize rnds K256 (sched b) h 64 = v at *
      have HS := Lib.hid hs
      have HV := Lib.hid hv
      clear hs hv
      have hge : (64 : Int) ≤ (t : Int) := by omega
      go_wp2
      go_loopw [105] (fun i w2 => ∃ k : Nat, k ≤ 8 ∧ i = .int .i64 k ∧ w2.heap[sb]? = some (.cells (stRow (addTo h v k) b n L) 50 (0, 0)) ∧ w2.heap[vb]? = some (.cells (rowU 8 v) 45 (0, 0)) ∧ w.grownBy w2 (some sb)) (fun i _ => 8 - (intOf i).toNat)
      case atStart => exact ⟨0, by omega, rfl, HS.out, HV.out, hgr⟩
      case round =>
        obtain ⟨k, hk, rfl, hs, hv, hg2⟩ := hrel
        by_cases hk8 : k < 8
        · have hk0 : (0 : Int) ≤ (k : Int) := by omega
          have hk1 : (k : Int) < 8 := by omega
          have ca : wr.cell? ⟨sb, k, none⟩ = some (.int .u32 (U (h k))) := by
            rw [cell_row hs (by omega)]; unfold stF addTo; rw [if_pos hk8, if_neg (by omega)]
          have cb : wr.cell? ⟨vb, k, none⟩ = some (.int .u32 (U (v k))) := cell_rowU hv hk8
          have cf : wr.frozen? ⟨sb, k, none⟩ = false := frozen_of_row wr _ _ _ _ hs
          have HS := Lib.hid hs
          have HV := Lib.hid hv
          clear hs hv HBL
          have hadd := U_add
          have hadd' := U_add'
          go_wp2
          go_still_tail 13, (by kernel_rfl)
          change wpList _ _ _ _ _ wr.drew
          go_wp2
          go_roundw
          case rel =>
            refine ⟨k + 1, by omega, by go_num, ?_, ?_, grown_drew (grown_setCell hg2 (.inr rfl) _)⟩
            · show (wr.setCell _ _).heap[_]? = _
              rw [heap_set_row _ HS.out (by omega), stRow_step hk8]
            · have hne : vb ≠ sb := by have := HSZ.out; omega
              show (wr.setCell _ _).heap[_]? = _
              rw [heap_setCell_other _ _ _ _ hne]
              exact HV.out
          case measure => simp [intOf]; omega
        · obtain rfl : k = 8 := by omega
          rw [stRow_congr HBL.out] at hs
          have HS := Lib.hid hs
          clear hs hv HBL
          go_wp2
          simp only [Exit.jump]
          go_end0
          exact ⟨rfl, HS.out, hg2⟩
  · intro hrest
    have HL := Lib.hid (show (Try.prog.info? 46).map (·.size) = some (rowU 64 (sched b)).size by rw [size64, rowU_size])
    have H8 := Lib.hid (show (Try.prog.info? 45).map (·.size) = some (rowU 8 h).size by rw [size8, rowU_size])
    have H8' := Lib.hid (show (Try.prog.info? 45).map (·.size) = some (rowU 8 h).toList.length by rw [size8]; simp [rowU_size])
    have HB := Lib.hid (show ∀ i, i < 64 → stF h b n L (72 + i) = .int .u8 (B8 (b i)) from fun i hi => by
      unfold stF; rw [if_neg (by omega), if_neg (by omega), if_pos (by omega)]; simp)
    have HR := Lib.hid hrest
    clear hrest
    go_wp2_with (first
      | (go_at_call 27; refine (schedule_any sb (stF h b n L) b _ HG.out HB.out).mono ?_; rintro e w1 ⟨rfl, hb1⟩)
      | (with_reducible refine wpList_alloc_row rfl 46 rfl 64 _ info64 ?_)
      | (with_reducible refine wpList_alloc_row rfl 45 rfl 8 _ info8 ?_)
      | ((with_reducible show wpList _ _ _ (⟨_, .store 46 _ _, _, _, _, _⟩ :: _) _ _); refine wpList_store_rowTo rfl 46 _ _ rfl rfl _ (rowU 64 (sched b)) rfl rfl 46 _ (heap_alloc_new _ _) HL.out (by rw [row_size, rowU_size]) (rowU_oneCell _ _) ?_)
      | ((with_reducible show wpList _ _ _ (⟨_, .load 45 _, _, _, _, _⟩ :: _) _ _); refine wpList_load_mid rfl 45 _ rfl sb 0 rfl (rowU 8 h).toList _ ?r Try.underlying45 rfl H8'.out ?_)
      | ((with_reducible show wpList _ _ _ (⟨_, .store 45 _ _, _, _, _, _⟩ :: _) _ _); refine wpList_store_rowTo rfl 45 _ _ rfl rfl _ (rowU 8 h) rfl rfl 45 _ (heap_alloc_new _ _) H8.out (by rw [row_size, rowU_size]) (rowU_oneCell _ _) ?_))
    case r =>
      have hne : sb ≠ w1.heap.size := by have := HSZ.out; have := hb1.size; omega
      have h1 : ((w1.alloc (.cells (row 64 fun _ => .int .u32 0) 46)).setRow w1.heap.size (rowU 64 (sched b))).heap[sb]? = some (.cells (row 138 (stF h b n L)) 50 (0, 0)) := by
        rw [heap_setRow_far hne, Below.heap_alloc _ _ _ (by have := HSZ.out; have := hb1.size; omega), hb1.block _ HSZ.out]
        exact HG.out
      have h2 := rangeAt_row (o := 0) (n := 8) h1 (by decide)
      have h3 : (row 8 fun i => stF h b n L (0 + i)) = rowU 8 h := row_congr fun i hi => by
        rw [Nat.zero_add]; unfold stF; rw [if_pos hi]
      rw [h3] at h2
      exact h2
    go_step3
    go_step
    go_step
    have hsz := hb1.size
    have hlt := HSZ.out
    have hne : sb ≠ w1.heap.size := by omega
    have hne' : sb ≠ w1.heap.size + 1 := by omega
    refine HR.out _ _ (turnAt_mk 0 w1.heap.size (w1.heap.size + 1) (by omega) hsz (by omega) rfl ?_ ?_ ?_ ?_)
    · rw [heap_setRow_far hne', Below.heap_alloc _ _ _ (by simp; omega), heap_setRow_far hne, Below.heap_alloc _ _ _ (by omega), hb1.block _ hlt]
      exact HG.out
    · rw [heap_setRow_far (by omega), Below.heap_alloc _ _ _ (by simp)]
      exact heap_setRow_at (heap_alloc_new _ _)
    · exact heap_setRow_at (by have := heap_alloc_new ((w1.alloc (.cells (row 64 fun _ => .int .u32 0) 46)).setRow w1.heap.size (rowU 64 (sched b))) (.cells (row 8 fun _ => .int .u32 0) 45); simpa using this)
    · exact grown_setRow (grown_alloc (grown_setRow (grown_alloc (grown_of_below hb1) _) (.inl hsz) _) _) (.inl (by omega)) _

end Go.Proofs.Ytnnllficjljjkaa
