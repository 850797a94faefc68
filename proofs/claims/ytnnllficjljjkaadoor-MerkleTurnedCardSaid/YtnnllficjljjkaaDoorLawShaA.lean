/-
  The walks of the laws ShaSums, ShaLengths.
-/
import Derived.Test.YtnnllficjljjkaaDoorAlive
import Derived.Test.YtnnllficjljjkaaDoorRefSha
namespace Go.Proofs.YtnnllficjljjkaaDoor
open Go.RowKit
set_option linter.unusedVariables false

theorem join_sl (v : Value) (l : List (List (BitVec 8))) (w : World) (hv : BRows w v l) (hl : l.length ≤ 1000000) (hm : l.flatten.length ≤ 1000000000) :
    Calls Tryd.prog 23 #[v] w fun e w' => ∃ a n c, e = .returned (.slice a n c) ∧ BRow w' (.slice a n c) l.flatten ∧ Below w.heap.size w w' :=
  (join_any v l w hv hl hm).mono fun e w' ⟨v', h1, h2, h3⟩ => by
    obtain ⟨a, c, rfl⟩ := h2.brow.shape
    exact ⟨a, _, c, h1, h2.brow, h3⟩
set_option maxRecDepth 100000 in
set_option maxHeartbeats 1000000 in
theorem shaSums_in (v : Value) (l : List (List (BitVec 8))) (w : World) (hv : BRows w v l) (hk : KAt w) (hbig : bigB l = false) :
    Calls Tryd.prog 3 #[v] w fun e w' => e = .returned (.bool true) ∧ Below w.heap.size w w' := by
  obtain ⟨hl, hm⟩ := big_false hbig
  have HV := Lib.hid hv
  have HK := Lib.hid hk
  have HBIG := Lib.hid hbig
  have HSZ := Lib.hid (show (Tryd.prog.info? 28).map (·.size) = some (rowB 32 (sha l.flatten)).size by rw [size32, rowB_size])
  obtain ⟨a, c, rfl⟩ := hv.shape
  clear hv hk hbig
  have heq := eqlNum
  have hself := eqB_self
  go_enter Tryd.func3, Tryd.ntmps3
  go_wp2_with (first
    | (go_at_call 21; refine (alive5_any _).mono ?_; rintro e w1 ⟨rfl, hb1⟩)
    | (go_at_call 22; refine (big_any _ l _ (HV.out.below hb1)).mono ?_; rintro e w' ⟨rfl, rfl⟩; rw [HBIG.out])
    | (go_at_call 23; refine (join_sl _ l _ (HV.out.below hb1) (by omega) (by omega)).mono ?_; rintro e w2 ⟨a2, n2, c2, rfl, hown2, hb2⟩)
    | (go_at_call 24; refine (refSha_any _ l.flatten _ hown2 (by omega) (HK.out.below (below_keep hb1 hb2))).mono ?_; rintro e w3 ⟨rfl, hb3⟩)
    | (with_reducible refine wpList_alloc_row rfl 28 rfl 32 _ info32 ?_)
    | ((with_reducible show wpList _ _ _ (⟨_, .store 28 _ _, _, _, _, _⟩ :: _) _ _); refine wpList_store_rowTo rfl 28 _ _ rfl rfl _ (rowB 32 (sha l.flatten)) rfl rfl 28 _ (heap_alloc_new _ _) HSZ.out (by rw [row_size, rowB_size]) (rowB_oneCell _ _) ?_))
  have HW := Lib.hid (show Below w.heap.size w ((w3.alloc (.cells (row 32 fun _ => .int .u8 0) 28)).setRow w3.heap.size (rowB 32 (sha l.flatten))) from
    below_setRow (below_allocS (below_keep (below_keep hb1 hb2) hb3) _) (below_keep (below_keep hb1 hb2) hb3).size _)
  have HR := Lib.hid (show ((w3.alloc (.cells (row 32 fun _ => .int .u8 0) 28)).setRow w3.heap.size (rowB 32 (sha l.flatten))).heap[w3.heap.size]? = some (.cells (rowB 32 (sha l.flatten)) 28 (0, 0)) from heap_setRow_at (heap_alloc_new _ _))
  have HV2 := Lib.hid (show BRow ((w3.alloc (.cells (row 32 fun _ => .int .u8 0) 28)).setRow w3.heap.size (rowB 32 (sha l.flatten))) (.slice a2 n2 c2) l.flatten from
    hown2.below (below_setRow ((hb3.alloc hb3.size _)) hb3.size _))
  clear hown2 hb1 hb2 hb3
  generalize (w3.alloc (.cells (row 32 fun _ => .int .u8 0) 28)).setRow w3.heap.size (rowB 32 (sha l.flatten)) = W at *
  generalize w3.heap.size = g at *
  have hrg := range_num HR.out
  have hu := Tryd.underlying28
  have hi : (Tryd.prog.info? 28).map (·.size) = some (rowB 32 (sha l.flatten)).toList.length := by rw [size32]; simp [rowB_size]
  refine wp_region_plan (S := fun w' => Below W.heap.size W w') [0, 2, 1, 3, 4, 5, 8, 6, 7, 9, 10, 11] [true, true, false, true, true, true, true, false, false, true, true, true] (by kernel_rfl) (by kernel_rfl) (Below.refl _ _).drew (fun hHeld => ?_)
  simp only [List.filterMap_cons, List.filterMap_nil, List.getElem?_toArray, List.getElem?_cons_zero, List.getElem?_cons_succ]
  refine seqH_take (v := ?_) (Or.inl ⟨by rfl, ?_⟩) ?_
  rotate_left
  · (intro w hSw; go_simp; first | done | with_reducible rfl)
  try simp only [Act.put, List.setIfInBounds_toArray, List.set_cons_zero, List.set_cons_succ]
  refine seqH_take (yieldsIf_load_mid (by rfl) _ _ rfl _ _ rfl _ _ (fun w hw => hrg w hw) hu rfl hi) ?_
  try simp only [Act.put, List.setIfInBounds_toArray, List.set_cons_zero, List.set_cons_succ, rowB_back]
  refine seqH_go (fun K hK => ?_)
  rw [if_pos (by rfl)]
  go_simp
  refine (sum_any _ l _ (HV.out.below (HW.out.trans (hHeld.mono HW.out.size))) (by omega) (by omega)).mono ?_; rintro e w4 ⟨rfl, hbc⟩
  try dsimp only
  refine hK.out _ _ (below_keep hHeld hbc) (fun hHeld2 => ?_)
  clear hK K hHeld
  have hHeld := hHeld2
  clear hHeld2
  try simp only [Act.put, List.setIfInBounds_toArray, List.set_cons_zero, List.set_cons_succ]
  refine seqH_take (v := ?_) (Or.inl ⟨by rfl, ?_⟩) ?_
  rotate_left
  · (intro w hSw; go_simp; first | done | with_reducible rfl)
  try simp only [Act.put, List.setIfInBounds_toArray, List.set_cons_zero, List.set_cons_succ]
  refine seqH_take (v := ?_) (Or.inl ⟨by rfl, ?_⟩) ?_
  rotate_left
  · (intro w hSw; go_simp; first | done | with_reducible rfl)
  try simp only [Act.put, List.setIfInBounds_toArray, List.set_cons_zero, List.set_cons_succ]
  refine seqH_take (v := ?_) (Or.inl ⟨by rfl, ?_⟩) ?_
  rotate_left
  · (intro w hSw; go_simp; first | done | with_reducible rfl)
  try simp only [Act.put, List.setIfInBounds_toArray, List.set_cons_zero, List.set_cons_succ]
  refine seqH_take (yieldsIf_load_mid (by rfl) _ _ rfl _ _ rfl _ _ (fun w hw => hrg w hw) hu rfl hi) ?_
  try simp only [Act.put, List.setIfInBounds_toArray, List.set_cons_zero, List.set_cons_succ, rowB_back]
  refine seqH_go (fun K hK => ?_)
  rw [if_pos (by rfl)]
  go_simp
  refine hK.out _ _ (below_allocS hHeld _) (fun hHeld2 => ?_)
  clear hK K hHeld
  have hHeld := hHeld2
  clear hHeld2
  try simp only [Act.put, List.setIfInBounds_toArray, List.set_cons_zero, List.set_cons_succ]
  refine seqH_go (fun K hK => ?_)
  rw [if_pos (by rfl)]
  go_simp
  refine (sum_one _ l.flatten _ (brows_one (heap_alloc_new _ _) (HV2.out.below hHeld)) (by omega)).mono ?_; rintro e w5 ⟨rfl, hbc⟩
  try dsimp only
  refine hK.out _ _ (below_keep hHeld hbc) (fun hHeld2 => ?_)
  clear hK K hHeld
  have hHeld := hHeld2
  clear hHeld2
  try simp only [Act.put, List.setIfInBounds_toArray, List.set_cons_zero, List.set_cons_succ]
  refine seqH_take (v := ?_) (Or.inl ⟨by rfl, ?_⟩) ?_
  rotate_left
  · (intro w hSw; go_simp; first | done | with_reducible rfl)
  try simp only [Act.put, List.setIfInBounds_toArray, List.set_cons_zero, List.set_cons_succ]
  refine seqH_take (v := ?_) (Or.inl ⟨by rfl, ?_⟩) ?_
  rotate_left
  · (intro w hSw; go_simp; first | done | with_reducible rfl)
  try simp only [Act.put, List.setIfInBounds_toArray, List.set_cons_zero, List.set_cons_succ]
  refine seqH_take (v := ?_) (Or.inl ⟨by rfl, ?_⟩) ?_
  rotate_left
  · (intro w hSw; go_simp; first | done | with_reducible rfl)
  try simp only [Act.put, List.setIfInBounds_toArray, List.set_cons_zero, List.set_cons_succ]
  refine seqH_nil (NoPanic.normal ?_)
  go_wp2
  go_ret
  exact ⟨rfl, HW.out.trans (hHeld.mono HW.out.size)⟩

set_option maxHeartbeats 400000 in
theorem shaSums_out (v : Value) (l : List (List (BitVec 8))) (w : World) (hv : BRows w v l) (hbig : bigB l = true) :
    Calls Tryd.prog 3 #[v] w fun e w' => e = .returned (.bool true) ∧ Below w.heap.size w w' := by
  have HV := Lib.hid hv
  have HBIG := Lib.hid hbig
  obtain ⟨a, c, rfl⟩ := hv.shape
  clear hv hbig
  go_enter Tryd.func3, Tryd.ntmps3
  go_wp2_with (first
    | (go_at_call 21; refine (alive5_any _).mono ?_; rintro e w1 ⟨rfl, hb1⟩)
    | (go_at_call 22; refine (big_any _ l _ (HV.out.below hb1)).mono ?_; rintro e w' ⟨rfl, rfl⟩; rw [HBIG.out]))
  go_ret
  exact ⟨rfl, hb1⟩
theorem shaSums_walk {w : World} (v : Value) (l : List (List (BitVec 8))) (hv : BRows w v l) (_h1 : l.length ≤ maxLen) (_h2 : ∀ m ∈ l, m.length ≤ maxLen) (hk : KAt w) :
    Calls Tryd.prog 3 #[v] w fun e w' => e = .returned (.bool true) ∧ Below w.heap.size w w' := by
  cases h : bigB l with
  | true => exact shaSums_out v l w hv h
  | false => exact shaSums_in v l w hv hk h

set_option maxRecDepth 100000 in
set_option maxHeartbeats 1000000 in
theorem shaLengths_in (n : Nat) (v : BitVec 8) (w : World) (hn : (n : Int) ≤ 1000) (hk : KAt w) :
    Calls Tryd.prog 4 #[.int .i64 n, .int .u8 (B8 v)] w fun e w' => e = .returned (.bool true) ∧ Below w.heap.size w w' := by
  have HK := Lib.hid hk
  clear hk
  have hmk := make_B n (by omega)
  have heq := eqlNum
  have hself := eqB_self
  have hn0 : (0 : Int) ≤ (n : Int) := by omega
  go_enter Tryd.func4, Tryd.ntmps4
  go_wp2_with (first
    | (go_at_call 21; refine (alive5_any _).mono ?_; rintro e w1 ⟨rfl, hb1⟩))
  have HB := Lib.hid (below_allocS hb1 (.cells (rowB n fun _ => 0) 5))
  have HG := Lib.hid (show (w1.alloc (.cells (rowB n fun _ => 0) 5)).heap[w1.heap.size]? = some (.cells (rowB n (upTo (fun i => v + BitVec.ofNat 8 i) 0)) 5 (0, 0)) by rw [upTo_zero]; exact heap_alloc_new _ _)
  have hlt := hb1.size
  clear hb1 hmk
  generalize w1.alloc (.cells (rowB n fun _ => 0) 5) = w2 at *
  generalize w1.heap.size = g at *
  go_loopw [7] (fun i wr => ∃ k : Nat, k ≤ n ∧ i = .int .i64 k ∧ wr.heap[g]? = some (.cells (rowB n (upTo (fun i => v + BitVec.ofNat 8 i) k)) 5 (0, 0)) ∧ Below w.heap.size w wr) (fun i _ => n - (intOf i).toNat)
  case atStart => exact ⟨0, Nat.zero_le _, rfl, HG.out, HB.out⟩
  case round =>
    clear HB HG
    obtain ⟨k, hkn, rfl, hg, hb⟩ := hrel
    by_cases hl : k < n
    · have hk0 : (0 : Int) ≤ (k : Int) := by omega
      have hk1 : (k : Int) < (n : Int) := by omega
      have hc : wr.cell? ⟨g, k, none⟩ = some (.int .u8 (B8 (upTo (fun i => v + BitVec.ofNat 8 i) k k))) := cell_rowB hg hl
      have hf : wr.frozen? ⟨g, k, none⟩ = false := frozen_of_row wr _ _ _ _ hg
      have HG := Lib.hid hg
      have HB := Lib.hid hb
      have HST := Lib.hid (upTo_step (fun i => v + BitVec.ofNat 8 i) k)
      clear hg hb
      have h1 := B8_add
      have h2 := B8_add'
      have h3 := B8_of k
      have h4 := B8_of' k
      go_wp2
      go_roundw
      case rel =>
        refine ⟨k + 1, by omega, by go_num, ?_, HB.out.setCell hlt _⟩
        rw [heap_set_rowB _ HG.out hl, HST.out]
      case measure => simp [intOf]; omega
    · have hkn : k = n := by omega
      subst hkn
      have HR := Lib.hid (brow_row (c := k) hg)
      have HB := Lib.hid hb
      have hlen : ((List.range k).map (upTo (fun i => v + BitVec.ofNat 8 i) k)).length ≤ 1000000000 := by simp; omega
      clear hg hb
      generalize (List.range k).map (upTo (fun i => v + BitVec.ofNat 8 i) k) = m at *
      go_wp2_with (first
        | (go_at_call 25; refine (sum_one _ m _ (brows_one (heap_alloc_new _ _) (HR.out.below ((Below.refl _ _).alloc (Nat.le_refl _) _))) hlen).mono ?_; rintro e w4 ⟨rfl, hb4⟩)
        | (go_at_call 24; refine (refSha_any _ m _ (HR.out.below (below_keep ((Below.refl _ _).alloc (Nat.le_refl _) _) hb4)) hlen (HK.out.below (below_keep (below_allocS HB.out _) hb4))).mono ?_; rintro e w5 ⟨rfl, hb5⟩))
      go_ret
      exact ⟨rfl, below_keep (below_keep (below_allocS HB.out _) hb4) hb5⟩

set_option maxHeartbeats 400000 in
theorem shaLengths_out (n v : Int) (w : World) (h : n < 0 ∨ 1000 < n) :
    Calls Tryd.prog 4 #[.int .i64 n, .int .u8 v] w fun e w' => e = .returned (.bool true) ∧ Below w.heap.size w w' := by
  by_cases h0 : n < 0
  · clear h
    go_enter Tryd.func4, Tryd.ntmps4
    go_wp2_with (first
      | (go_at_call 21; refine (alive5_any _).mono ?_; rintro e w1 ⟨rfl, hb1⟩))
    go_ret
    exact ⟨rfl, hb1⟩
  · have h1 : 1000 < n := by omega
    clear h
    go_enter Tryd.func4, Tryd.ntmps4
    go_wp2_with (first
      | (go_at_call 21; refine (alive5_any _).mono ?_; rintro e w1 ⟨rfl, hb1⟩))
    go_ret
    exact ⟨rfl, hb1⟩
theorem shaLengths_walk {w : World} (n : Int) (_hn : -9223372036854775808 ≤ n ∧ n ≤ 9223372036854775807) (v : BitVec 8) (hk : KAt w) :
    Calls Tryd.prog 4 #[.int .i64 n, .int .u8 (B8 v)] w fun e w' => e = .returned (.bool true) ∧ Below w.heap.size w w' := by
  by_cases h : n < 0 ∨ 1000 < n
  · exact shaLengths_out _ _ _ h
  · obtain ⟨n, rfl⟩ := Int.eq_ofNat_of_zero_le (show 0 ≤ n by omega)
    exact shaLengths_in n v w (by omega) hk

end Go.Proofs.YtnnllficjljjkaaDoor
