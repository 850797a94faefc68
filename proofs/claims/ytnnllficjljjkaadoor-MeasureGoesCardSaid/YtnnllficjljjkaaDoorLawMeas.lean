/-
  The walks of the laws MeasureFolds, MeasureGoes, MeasureOrders.
-/
import Derived.Test.YtnnllficjljjkaaDoorNums
namespace Go.Proofs.YtnnllficjljjkaaDoor
open Go.RowKit
set_option linter.unusedVariables false
set_option linter.unusedSimpArgs false

set_option maxRecDepth 100000 in
set_option maxHeartbeats 400000 in
theorem alive24_any (w : World) (hk : KAt w) : Calls Tryd.prog 26 #[] w fun e w' => e = .returned (.bool true) ∧ Below w.heap.size w w' := by
  have HK := Lib.hid hk
  clear hk
  have heq := eqlNum
  have hself := eqB_self
  go_enter Tryd.func26, Tryd.ntmps26
  go_wp2_with (first
    | (with_reducible refine wpList_alloc_row rfl 36 rfl 32 _ info36 ?_)
    | (refine wpList_buildTo rfl 28 #[(0, .const (.int .u8 1))] rfl _ rfl (rowB 32 (oneB 1)) (by kernel_rfl) ?_)
    | (refine wpList_buildTo rfl 28 #[] rfl _ rfl (rowB 32 (foldS [])) (by kernel_rfl) ?_)
    | (go_at_call 27; refine (extend_any w.heap.size (fun _ => 0) (oneB 1) _ (heap_alloc_new _ _)).mono ?_; rintro e w1 ⟨rfl, hg1, hgr1⟩; have hb1 : Below w.heap.size w w1 := (below_allocS (Below.refl _ _) _).grown hgr1 (by simp) (fun k hk => by cases hk; exact Nat.le_refl _))
    | (go_at_call 30; refine (fold_any _ [] _ (nrow_nil _) (by simp)).mono ?_; rintro e w2 ⟨rfl, hb2⟩)
    | (go_at_call 28; refine (value_any w.heap.size (foldS [oneB 1]) _ ?b2).mono ?_; rotate_left; rintro e w3 ⟨rfl, hb3⟩)
    | (refine wpList_buildSliceTo rfl 34 28 1 _ rfl _ rfl _ rfl Tryd.underlying34 (rowB 32 (oneB 1)) (by kernel_rfl) ?_)
    | (go_at_call 29; refine (fold16_any _ [oneB 1] _ (nrow_one (heap_alloc_new _ _)) (by simp) (HK.out.below ?b3)).mono ?_; rotate_left; rintro e w4 ⟨rfl, hb4⟩))
  case b3 => exact below_allocS (below_keep (below_keep hb1 hb2) hb3) _
  case b2 => exact (hb2.block _ (Array.getElem?_eq_some_iff.1 hg1).1).trans hg1
  go_ret
  exact ⟨rfl, below_keep (below_allocS (below_keep (below_keep hb1 hb2) hb3) _) hb4⟩

theorem below_front {w w' : World} {b : Nat} {W : World} (h : Below w.heap.size w W) (hg : W.grownBy w' (some b)) (hb : w.heap.size ≤ b) : Below w.heap.size w w' :=
  h.grown hg h.size fun k hk => by cases hk; exact hb

set_option maxRecDepth 100000 in
set_option maxHeartbeats 1000000 in
theorem measureFolds_in (A : Option Addr) (c : Nat) (l : List (Nat → BitVec 8)) (w : World) (hv : NRow w (.slice A l.length c) l) (hc : l.length ≤ c) (hl : l.length ≤ 60) (hk : KAt w) :
    Calls Tryd.prog 7 #[.slice A l.length c] w fun e w' => e = .returned (.bool true) ∧ Below w.heap.size w w' := by
  have HV := Lib.hid hv
  have HK := Lib.hid hk
  have HC := Lib.hid hc
  have HL := Lib.hid hl
  have heq := eqlNum
  have hne := neqNum
  have hself := eqB_self
  have hz1 : ((60 : Int) < (l.length : Int)) = False := eq_false (by omega)
  obtain ⟨a, c', e, _, hp⟩ := hv
  cases e
  have HP := Lib.hid hp
  clear hk hp hc hl
  go_enter Tryd.func7, Tryd.ntmps7
  go_wp2_with (first
    | (go_at_call 26; refine (alive24_any _ HK.out).mono ?_; rintro e w1 ⟨rfl, hb1⟩)
    | (with_reducible refine wpList_alloc_row rfl 36 rfl 32 _ info36 ?_))
  have HB := Lib.hid (below_allocS (below_allocS hb1 (.cells (row 32 fun _ => .int .u8 0) 36)) (.cells (row 32 fun _ => .int .u8 0) 36))
  have HR := Lib.hid (show ((w1.alloc (.cells (row 32 fun _ => .int .u8 0) 36)).alloc (.cells (row 32 fun _ => .int .u8 0) 36)).heap[w1.heap.size]? = some (.cells (rowB 32 (foldS (l.take 0))) 36 (0, 0)) from heap_alloc2_old _ _ _)
  have HO := Lib.hid (show ∃ f, ((w1.alloc (.cells (row 32 fun _ => .int .u8 0) 36)).alloc (.cells (row 32 fun _ => .int .u8 0) 36)).heap[w1.heap.size + 1]? = some (.cells (rowB 32 f) 36 (0, 0)) from ⟨fun _ => 0, heap_alloc2_new _ _ _⟩)
  have hsz1 := hb1.size
  clear hb1
  generalize (w1.alloc (.cells (row 32 fun _ => .int .u8 0) 36)).alloc (.cells (row 32 fun _ => .int .u8 0) 36) = W at *
  generalize w1.heap.size = g at *
  go_loopw [6] (fun i wr => ∃ k : Nat, k ≤ l.length ∧ i = .int .i64 k ∧ wr.heap[g]? = some (.cells (rowB 32 (foldS (l.take k))) 36 (0, 0)) ∧ (∃ f, wr.heap[g + 1]? = some (.cells (rowB 32 f) 36 (0, 0))) ∧ Below w.heap.size w wr) (fun i _ => l.length - (intOf i).toNat)
  case atStart => exact ⟨0, Nat.zero_le _, rfl, HR.out, HO.out, HB.out⟩
  case round =>
    clear HB HR HO
    obtain ⟨k, hk, rfl, hr, ⟨fo, ho⟩, hb⟩ := hrel
    have HR := Lib.hid hr
    have HO := Lib.hid ho
    have HB := Lib.hid hb
    clear hr ho hb
    by_cases hlt : k < l.length
    · obtain ⟨b, off, ha, hbl, hcells⟩ := HP.out (by omega)
      subst ha
      have HF := Lib.hid (foldS_snoc l hlt)
      have hk0 : (0 : Int) ≤ (k : Int) := by omega
      have hk1 : (k : Int) < (l.length : Int) := by omega
      have HRG := Lib.hid (hcells k hlt)
      have HBL := Lib.hid hbl
      clear hcells
      generalize l[k] = f at *
      have HSL := Lib.hid (show (Tryd.prog.info? 28).map (·.size) = some (rowB 32 f).toList.length by rw [size32]; simp [rowB_size])
      go_wp2_with (refine wpList_buildTo rfl 28 #[(0, .const (.int .u8 9))] rfl _ rfl (rowB 32 (oneB 9)) (by kernel_rfl) ?_)
      refine (extend_any (g + 1) fo (oneB 9) _ HO.out).mono ?_
      rintro e w2 ⟨rfl, ho2, hgr2⟩
      have HB2 := Lib.hid (below_front HB.out hgr2 (by omega))
      have hne2 : some g ≠ some (g + 1) := by intro e; injection e with e; omega
      have HR2 := Lib.hid ((hgr2.block g (Array.getElem?_eq_some_iff.1 HR.out).1 hne2).trans HR.out)
      have HO2 := Lib.hid ho2
      have HRG2 := Lib.hid (NRow.range (w := w2) fun j hj => (HB2.out.cell (p := ⟨b, off + k * 32 + j, none⟩) HBL.out).trans (HRG.out j hj))
      clear ho2 hgr2 hne2
      go_wp2_with ((with_reducible show wpList _ _ _ (⟨_, .load 28 _, _, _, _, _⟩ :: _) _ _); go_loud (refine wpList_load_mid rfl 28 _ rfl b (off + k * 32) rfl (rowB 32 f).toList _ HRG2.out Tryd.underlying28 rfl HSL.out ?_); rw [rowB_back])
      refine (extend_any g (foldS (l.take k)) f _ HR2.out).mono ?_
      rintro e w3 ⟨rfl, hr3, hgr3⟩
      have HB3 := Lib.hid (below_front HB2.out hgr3 hsz1)
      have hne3 : some (g + 1) ≠ some g := by intro e; injection e with e; omega
      have HO3 := Lib.hid ((hgr3.block (g + 1) (Array.getElem?_eq_some_iff.1 HO2.out).1 hne3).trans HO2.out)
      rw [← HF.out] at hr3
      have HR3 := Lib.hid hr3
      have HS := Lib.hid (show ∀ w, (Instr.sliceAt 34 (.slice (some ⟨b, off, none⟩) l.length c) none (some (.int .i64 (IntKind.i64.wrap ((k : Int) + 1)))) none).run Tryd.prog w = .ok (.slice (some ⟨b, off, none⟩) (k + 1) c) w from fun w => by
        rw [IntWalk.i64_in ((k : Int) + 1) (by have := HL.out; omega), show ((k : Int) + 1) = ((k + 1 : Nat) : Int) from by omega]
        exact slice_hiN (by have := HC.out; omega) w)
      have HNR := Lib.hid (show NRow w3 (.slice (some ⟨b, off, none⟩) (k + 1) c) (l.take (k + 1)) from (HV.out.below HB3.out).front (by omega))
      have HLK := Lib.hid (show (l.take (k + 1)).length ≤ 1000000 by rw [List.length_take]; have := HL.out; omega)
      clear hr3 hgr3 hne3 HF
      go_wp2
      refine wp_region_plan (S := fun w' => Below w3.heap.size w3 w') [1, 2, 3, 4, 0, 5, 6] [true, true, true, true, false, false, true] (by kernel_rfl) (by kernel_rfl) (Below.refl _ _).drew (fun hHeld => ?_)
      simp only [List.filterMap_cons, List.filterMap_nil, List.getElem?_toArray, List.getElem?_cons_zero, List.getElem?_cons_succ]
      refine seqH_take (v := ?_) (Or.inl ⟨by rfl, ?_⟩) ?_
      rotate_left
      · (intro w hSw; go_simp; first | done | with_reducible rfl)
      try simp only [Act.put, List.setIfInBounds_toArray, List.set_cons_zero, List.set_cons_succ]
      refine seqH_take (v := ?_) (Or.inl ⟨by rfl, ?_⟩) ?_
      rotate_left
      · (intro w hSw; go_simp; first | done | with_reducible rfl)
      try simp only [Act.put, List.setIfInBounds_toArray, List.set_cons_zero, List.set_cons_succ]
      refine seqH_take (v := ?_) (Or.inl ⟨by rfl, ?_⟩) ?_
      rotate_left
      · (intro w hSw; go_simp; first | done | with_reducible rfl)
      try simp only [Act.put, List.setIfInBounds_toArray, List.set_cons_zero, List.set_cons_succ]
      refine seqH_take (yieldsIf_slice (by rfl) _ _ _ _ rfl _ (fun w _ => HS.out w)) ?_
      try simp only [Act.put, List.setIfInBounds_toArray, List.set_cons_zero, List.set_cons_succ]
      refine seqH_go (fun K hK => ?_)
      rw [if_pos (by rfl)]
      go_simp
      refine (value_any g (foldS (l.take (k + 1))) _ ((hHeld.block _ (Array.getElem?_eq_some_iff.1 HR3.out).1).trans HR3.out)).mono ?_; rintro e w4 ⟨rfl, hbc⟩
      try dsimp only
      refine hK.out _ _ (below_keep hHeld hbc) (fun hHeld2 => ?_)
      clear hK K hHeld
      have hHeld := hHeld2
      clear hHeld2
      try simp only [Act.put, List.setIfInBounds_toArray, List.set_cons_zero, List.set_cons_succ]
      refine seqH_go (fun K hK => ?_)
      rw [if_pos (by rfl)]
      go_simp
      refine (fold16_any _ (l.take (k + 1)) _ (HNR.out.below hHeld) HLK.out (HK.out.below (HB3.out.trans (hHeld.mono HB3.out.size)))).mono ?_; rintro e w5 ⟨rfl, hbc⟩
      try dsimp only
      refine hK.out _ _ (below_keep hHeld hbc) (fun hHeld2 => ?_)
      clear hK K hHeld
      have hHeld := hHeld2
      clear hHeld2
      try simp only [Act.put, List.setIfInBounds_toArray, List.set_cons_zero, List.set_cons_succ]
      refine seqH_take (v := ?_) (Or.inl ⟨by rfl, ?_⟩) ?_
      rotate_left
      · (intro w hSw; go_simp; first | done | with_reducible rfl)
      try simp only [Act.put, List.setIfInBounds_toArray, List.set_cons_zero, List.set_cons_succ]
      refine seqH_nil (NoPanic.normal ?_)
      have hkb : (k : Int) < 60 := by have := HL.out; omega
      go_wp2
      go_roundw
      case rel => exact ⟨k + 1, by omega, by go_num, (hHeld.block _ (Array.getElem?_eq_some_iff.1 HR3.out).1).trans HR3.out, ⟨_, (hHeld.block _ (Array.getElem?_eq_some_iff.1 HO3.out).1).trans HO3.out⟩, HB3.out.trans (hHeld.mono HB3.out.size)⟩
      case measure => simp [intOf]; omega
    · have HE := Lib.hid (show foldS (l.take k) = foldS l by rw [List.take_of_length_le (by omega)])
      rw [HE.out] at HR
      have HLL := Lib.hid (show l.length ≤ 1000000 by have := HL.out; omega)
      go_wp2_with (first
        | (go_at_call 28; refine (value_any g (foldS l) _ HR.out).mono ?_; rintro e w2 ⟨rfl, hb2⟩)
        | (go_at_call 30; refine (fold_any _ l _ (HV.out.below (below_keep HB.out hb2)) HLL.out).mono ?_; rintro e w3 ⟨rfl, hb3⟩))
      go_ret
      exact ⟨rfl, below_keep (below_keep HB.out hb2) hb3⟩

set_option maxHeartbeats 400000 in
theorem measureFolds_out (A : Option Addr) (n c : Nat) (w : World) (hn : 60 < n) (hk : KAt w) :
    Calls Tryd.prog 7 #[.slice A n c] w fun e w' => e = .returned (.bool true) ∧ Below w.heap.size w w' := by
  have HK := Lib.hid hk
  have hz1 : ((60 : Int) < (n : Int)) = True := eq_true (by omega)
  clear hk
  go_enter Tryd.func7, Tryd.ntmps7
  go_wp2_with (go_at_call 26; refine (alive24_any _ HK.out).mono ?_; rintro e w1 ⟨rfl, hb1⟩)
  go_ret
  exact ⟨rfl, hb1⟩
theorem measureFolds_walk {w : World} (v : Value) (l : List (Nat → BitVec 8)) (hv : NRow w v l) (hc : l.length ≤ maxLen ∧ CapOk v) (hk : KAt w) :
    Calls Tryd.prog 7 #[v] w fun e w' => e = .returned (.bool true) ∧ Below w.heap.size w w' := by
  obtain ⟨A, c, rfl⟩ := hv.shape
  by_cases h : 60 < l.length
  · exact measureFolds_out _ _ _ _ h hk
  · exact measureFolds_in A c l w hv (hc.2 _ _ _ rfl).1 (by omega) hk

end Go.Proofs.YtnnllficjljjkaaDoor
