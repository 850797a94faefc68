/-
  The walk of the law MeasureOrders.
-/
import Derived.Test.YtnnllficjljjkaaDoorLawMeasB
namespace Go.Proofs.YtnnllficjljjkaaDoor
open Go.RowKit
set_option linter.unusedVariables false
set_option linter.unusedSimpArgs false

set_option maxHeartbeats 400000 in
theorem measureOrders_out (A : Option Addr) (n c : Nat) (k : Int) (w : World) (h : 60 < n ∨ k < 0 ∨ (n : Int) < k) (hk : KAt w) :
    Calls Tryd.prog 9 #[.slice A n c, .int .i64 k] w fun e w' => e = .returned (.bool true) ∧ Below w.heap.size w w' := by
  have HK := Lib.hid hk
  clear hk
  by_cases h1 : 60 < n
  · have hz1 : ((60 : Int) < (n : Int)) = True := eq_true (by omega)
    clear h h1
    go_enter Tryd.func9, Tryd.ntmps9
    go_wp2_with (go_at_call 26; refine (alive24_any _ HK.out).mono ?_; rintro e w1 ⟨rfl, hb1⟩)
    go_ret
    exact ⟨rfl, hb1⟩
  · have hz1 : ((60 : Int) < (n : Int)) = False := eq_false (by omega)
    by_cases h2 : k < 0
    · clear h h1
      go_enter Tryd.func9, Tryd.ntmps9
      go_wp2_with (go_at_call 26; refine (alive24_any _ HK.out).mono ?_; rintro e w1 ⟨rfl, hb1⟩)
      go_ret
      exact ⟨rfl, hb1⟩
    · have h3 : (n : Int) < k := by omega
      clear h h1
      go_enter Tryd.func9, Tryd.ntmps9
      go_wp2_with (go_at_call 26; refine (alive24_any _ HK.out).mono ?_; rintro e w1 ⟨rfl, hb1⟩)
      go_ret
      exact ⟨rfl, hb1⟩

set_option maxRecDepth 100000 in
set_option maxHeartbeats 1000000 in
theorem measureOrders_in (A : Option Addr) (c : Nat) (l : List (Nat → BitVec 8)) (m : Nat) (w : World) (hv : NRow w (.slice A l.length c) l) (hc : l.length ≤ c) (hl : l.length ≤ 60) (hm : m ≤ l.length) (hk : KAt w) :
    Calls Tryd.prog 9 #[.slice A l.length c, .int .i64 (m : Int)] w fun e w' => e = .returned (.bool true) ∧ Below w.heap.size w w' := by
  have HV := Lib.hid hv
  have HK := Lib.hid hk
  have HC := Lib.hid hc
  have HL := Lib.hid hl
  have heq := eqlNum
  have hself := eqB_self
  have hz1 : ((60 : Int) < (l.length : Int)) = False := eq_false (by omega)
  have hm0 : (0 : Int) ≤ (m : Int) := by omega
  have hm1 : (m : Int) ≤ (l.length : Int) := by omega
  have hm2 : (m : Int) ≤ 60 := by omega
  obtain ⟨a, c', e, _, hp⟩ := hv
  cases e
  have HP := Lib.hid hp
  clear hk hp hc hl
  go_enter Tryd.func9, Tryd.ntmps9
  go_wp2_with (first
    | (go_at_call 26; refine (alive24_any _ HK.out).mono ?_; rintro e w1 ⟨rfl, hb1⟩)
    | (with_reducible refine wpList_alloc_row rfl 36 rfl 32 _ info36 ?_))
  have HB := Lib.hid (below_allocS hb1 (.cells (row 32 fun _ => .int .u8 0) 36))
  have HR := Lib.hid (show (w1.alloc (.cells (row 32 fun _ => .int .u8 0) 36)).heap[w1.heap.size]? = some (.cells (rowB 32 (foldS (l.take 0))) 36 (0, 0)) from heap_alloc_new _ _)
  have hsz1 := hb1.size
  clear hb1
  generalize w1.alloc (.cells (row 32 fun _ => .int .u8 0) 36) = W at *
  generalize w1.heap.size = g at *
  go_loopw [7] (fun i wr => ∃ k : Nat, k ≤ m ∧ i = .int .i64 k ∧ wr.heap[g]? = some (.cells (rowB 32 (foldS (l.take k))) 36 (0, 0)) ∧ Below w.heap.size w wr) (fun i _ => m - (intOf i).toNat)
  case atStart => exact ⟨0, Nat.zero_le _, rfl, HR.out, HB.out⟩
  case round =>
    clear HB HR
    obtain ⟨k, hk, rfl, hr, hb⟩ := hrel
    have HR := Lib.hid hr
    have HB := Lib.hid hb
    clear hr hb
    by_cases hlt : k < m
    · have hlt2 : k < l.length := by omega
      obtain ⟨b, off, ha, hbl, hcells⟩ := HP.out (by omega)
      subst ha
      have HF := Lib.hid (foldS_snoc l hlt2)
      have hk0 : (0 : Int) ≤ (k : Int) := by omega
      have hk1 : (k : Int) < (l.length : Int) := by omega
      have hk3 : (k : Int) < (m : Int) := by omega
      have HRG := Lib.hid (hcells k hlt2)
      have HBL := Lib.hid hbl
      clear hcells
      generalize l[k] = f at *
      have HSL := Lib.hid (show (Tryd.prog.info? 28).map (·.size) = some (rowB 32 f).toList.length by rw [size32]; simp [rowB_size])
      have HRG2 := Lib.hid (NRow.range (w := wr) fun j hj => (HB.out.cell (p := ⟨b, off + k * 32 + j, none⟩) HBL.out).trans (HRG.out j hj))
      go_wp2_with ((with_reducible show wpList _ _ _ (⟨_, .load 28 _, _, _, _, _⟩ :: _) _ _); go_loud (refine wpList_load_mid rfl 28 _ rfl b (off + k * 32) rfl (rowB 32 f).toList _ HRG2.out Tryd.underlying28 rfl HSL.out ?_); rw [rowB_back])
      refine (extend_any g (foldS (l.take k)) f _ HR.out).mono ?_
      rintro e w3 ⟨rfl, hr3, hgr3⟩
      have HB3 := Lib.hid (below_front HB.out hgr3 hsz1)
      rw [← HF.out] at hr3
      have HR3 := Lib.hid hr3
      clear hr3 hgr3
      go_wp2
      go_roundw
      case rel => exact ⟨k + 1, by omega, by go_num, HR3.out, HB3.out⟩
      case measure => simp [intOf]; omega
    · obtain rfl : k = m := by omega
      have HSZ := Lib.hid (show (Tryd.prog.info? 28).map (·.size) = some (rowB 32 (foldS (l.take k))).size by rw [size32, rowB_size])
      go_wp2_with (first
        | (go_at_call 28; refine (value_any g (foldS (l.take k)) _ HR.out).mono ?_; rintro e w2 ⟨rfl, hb2⟩)
        | (with_reducible refine wpList_alloc_row rfl 28 rfl 32 _ info32 ?_)
        | ((with_reducible show wpList _ _ _ (⟨_, .store 28 _ _, _, _, _, _⟩ :: _) _ _); refine wpList_store_rowTo rfl 28 _ _ rfl rfl _ (rowB 32 (foldS (l.take k))) rfl rfl 28 _ (heap_alloc_new _ _) HSZ.out (by rw [row_size, rowB_size]) (rowB_oneCell _ _) ?_))
      try simp only [Act.put, List.setIfInBounds_toArray, List.set_cons_zero, List.set_cons_succ]
      obtain ⟨ga, ega⟩ : ∃ ga, ga = w2.heap.size := ⟨_, rfl⟩
      have HBA := Lib.hid (show Below w.heap.size w ((w2.alloc (.cells (row 32 fun _ => .int .u8 0) 28)).setRow w2.heap.size (rowB 32 (foldS (l.take k)))) from below_setRow (below_allocS (below_keep HB.out hb2) _) (below_keep HB.out hb2).size _)
      have HRA := Lib.hid (show ((w2.alloc (.cells (row 32 fun _ => .int .u8 0) 28)).setRow w2.heap.size (rowB 32 (foldS (l.take k)))).heap[g]? = some (.cells (rowB 32 (foldS (l.take k))) 36 (0, 0)) from by
        have h2 := (hb2.block _ (Array.getElem?_eq_some_iff.1 HR.out).1).trans HR.out
        have hl2 := (Array.getElem?_eq_some_iff.1 h2).1
        exact (heap_setRow_far (by omega)).trans ((Below.heap_alloc _ _ _ hl2).trans h2))
      have HA := Lib.hid (show ((w2.alloc (.cells (row 32 fun _ => .int .u8 0) 28)).setRow w2.heap.size (rowB 32 (foldS (l.take k)))).heap[ga]? = some (.cells (rowB 32 (foldS (l.take k))) 28 (0, 0)) from by rw [ega]; exact heap_setRow_at (heap_alloc_new _ _))
      generalize (w2.alloc (.cells (row 32 fun _ => .int .u8 0) 28)).setRow w2.heap.size (rowB 32 (foldS (l.take k))) = w3 at *
      rw [← ega]
      clear ega hb2 HSZ
      have HS := Lib.hid (show ∀ w, (Instr.sliceAt 34 (.slice A l.length c) none (some (.int .i64 (k : Int))) none).run Tryd.prog w = .ok (.slice A k c) w from fun w => slice_hiN (by have := HC.out; omega) w)
      have HNR := Lib.hid (show NRow w3 (.slice A k c) (l.take k) from (HV.out.below HBA.out).front (by omega))
      have HLK := Lib.hid (show (l.take k).length ≤ 1000000 by rw [List.length_take]; have := HL.out; omega)
      have hrg := range_num HA.out
      have hi : (Tryd.prog.info? 28).map (·.size) = some (rowB 32 (foldS (l.take k))).toList.length := by rw [size32]; simp [rowB_size]
      have hu := Tryd.underlying28
      refine wp_region_plan (S := fun w' => Below w3.heap.size w3 w') [0, 1, 2, 3, 4, 5] [true, true, true, true, false, true] (by kernel_rfl) (by kernel_rfl) (Below.refl _ _).drew (fun hHeld => ?_)
      simp only [List.filterMap_cons, List.filterMap_nil, List.getElem?_toArray, List.getElem?_cons_zero, List.getElem?_cons_succ]
      refine seqH_take (yieldsIf_load_mid (by rfl) _ _ rfl _ _ rfl _ _ (fun w hw => hrg w hw) hu rfl hi) ?_
      try simp only [Act.put, List.setIfInBounds_toArray, List.set_cons_zero, List.set_cons_succ, rowB_back]
      refine seqH_take (v := ?_) (Or.inl ⟨by rfl, ?_⟩) ?_
      rotate_left
      · (intro w hSw; go_simp; first | done | with_reducible rfl)
      try simp only [Act.put, List.setIfInBounds_toArray, List.set_cons_zero, List.set_cons_succ]
      refine seqH_take (v := ?_) (Or.inl ⟨by rfl, ?_⟩) ?_
      rotate_left
      · (intro w hSw; go_simp; first | done | with_reducible rfl)
      try simp only [Act.put, List.setIfInBounds_toArray, List.set_cons_zero, List.set_cons_succ]
      refine seqH_take (yieldsIf_slice (by rfl) _ _ _ _ rfl _ (fun w _ => HS.out w)) ?_
      try simp only [Act.put, List.setIfInBounds_toArray, List.set_cons_zero, List.set_cons_succ]
      refine seqH_go (fun K hK => ?_)
      rw [if_pos (by rfl)]
      go_simp
      refine (fold_any _ (l.take k) _ (HNR.out.below hHeld) HLK.out).mono ?_; rintro e w5 ⟨rfl, hbc⟩
      try dsimp only
      refine hK.out _ _ (below_keep hHeld hbc) (fun hHeld2 => ?_)
      clear hK K hHeld
      have hHeld := hHeld2
      clear hHeld2
      try simp only [Act.put, List.setIfInBounds_toArray, List.set_cons_zero, List.set_cons_succ]
      refine seqH_take (yieldsIf_sameNumNe (by rfl) _ _ rfl (foldS (l.take k)) rfl rfl) ?_
      try simp only [Act.put, List.setIfInBounds_toArray, List.set_cons_zero, List.set_cons_succ]
      refine seqH_nil (NoPanic.normal ?_)
      clear hrg hi
      have HR5 := Lib.hid ((hHeld.block _ (Array.getElem?_eq_some_iff.1 HRA.out).1).trans HRA.out)
      have HB5 := Lib.hid (below_keep HBA.out hHeld)
      clear hHeld hbc
      go_wp2
      go_loopw [9] (fun i wr => ∃ j : Nat, j ≤ l.length ∧ i = .int .i64 j ∧ wr.heap[g]? = some (.cells (rowB 32 (foldS (l.take j))) 36 (0, 0)) ∧ Below w.heap.size w wr) (fun i _ => l.length - (intOf i).toNat)
      case atStart => exact ⟨k, hm, rfl, HR5.out, HB5.out⟩
      case round =>
        clear HR5 HB5
        obtain ⟨j, hj, rfl, hr, hb⟩ := hrel
        have HR := Lib.hid hr
        have HB := Lib.hid hb
        clear hr hb
        by_cases hlt2 : j < l.length
        · obtain ⟨b, off, ha, hbl, hcells⟩ := HP.out (by omega)
          subst ha
          have HF := Lib.hid (foldS_snoc l hlt2)
          have hk0 : (0 : Int) ≤ (j : Int) := by omega
          have hk1 : (j : Int) < (l.length : Int) := by omega
          have hk3 : (j : Int) < 60 := by have := HL.out; omega
          have HRG := Lib.hid (hcells j hlt2)
          have HBL := Lib.hid hbl
          clear hcells
          generalize l[j] = f at *
          have HSL := Lib.hid (show (Tryd.prog.info? 28).map (·.size) = some (rowB 32 f).toList.length by rw [size32]; simp [rowB_size])
          have HRG2 := Lib.hid (NRow.range (w := wr) fun i hi => (HB.out.cell (p := ⟨b, off + j * 32 + i, none⟩) HBL.out).trans (HRG.out i hi))
          go_wp2_with ((with_reducible show wpList _ _ _ (⟨_, .load 28 _, _, _, _, _⟩ :: _) _ _); go_loud (refine wpList_load_mid rfl 28 _ rfl b (off + j * 32) rfl (rowB 32 f).toList _ HRG2.out Tryd.underlying28 rfl HSL.out ?_); rw [rowB_back])
          refine (extend_any g (foldS (l.take j)) f _ HR.out).mono ?_
          rintro e w3 ⟨rfl, hr3, hgr3⟩
          have HB3 := Lib.hid (below_front HB.out hgr3 hsz1)
          rw [← HF.out] at hr3
          have HR3 := Lib.hid hr3
          clear hr3 hgr3
          go_wp2
          go_roundw
          case rel => exact ⟨j + 1, by omega, by go_num, HR3.out, HB3.out⟩
          case measure => simp [intOf]; omega
        · have HE := Lib.hid (show foldS (l.take j) = foldS l by rw [List.take_of_length_le (by omega)])
          rw [HE.out] at HR
          have HLL := Lib.hid (show l.length ≤ 1000000 by have := HL.out; omega)
          go_wp2_with (first
            | (go_at_call 28; refine (value_any g (foldS l) _ HR.out).mono ?_; rintro e w2 ⟨rfl, hb2⟩)
            | (go_at_call 30; refine (fold_any _ l _ (HV.out.below (below_keep HB.out hb2)) HLL.out).mono ?_; rintro e w3 ⟨rfl, hb3⟩))
          go_ret
          exact ⟨rfl, below_keep (below_keep HB.out hb2) hb3⟩

theorem measureOrders_walk {w : World} (v : Value) (l : List (Nat → BitVec 8)) (hv : NRow w v l) (hc : l.length ≤ maxLen ∧ CapOk v) (k : Int) (hw : -9223372036854775808 ≤ k ∧ k ≤ 9223372036854775807) (hk : KAt w) :
    Calls Tryd.prog 9 #[v, .int .i64 k] w fun e w' => e = .returned (.bool true) ∧ Below w.heap.size w w' := by
  obtain ⟨A, c, rfl⟩ := hv.shape
  by_cases h : 60 < l.length ∨ k < 0 ∨ (l.length : Int) < k
  · exact measureOrders_out _ _ _ _ _ h hk
  · obtain ⟨m, rfl⟩ : ∃ m : Nat, k = (m : Int) := ⟨k.toNat, by omega⟩
    exact measureOrders_in A c l m w hv (hc.2 _ _ _ rfl).1 (by omega) (by omega) hk

end Go.Proofs.YtnnllficjljjkaaDoor
