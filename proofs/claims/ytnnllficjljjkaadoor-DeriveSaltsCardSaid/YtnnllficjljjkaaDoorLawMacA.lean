/-
  The walks of the laws MacSums, MacKeys.
-/
import Derived.Test.YtnnllficjljjkaaDoorRefMac
import Derived.Test.YtnnllficjljjkaaDoorAlive7
import Derived.Test.YtnnllficjljjkaaDoorLawShaA
namespace Go.Proofs.YtnnllficjljjkaaDoor
open Go.RowKit
set_option linter.unusedVariables false
set_option linter.unusedSimpArgs false

set_option maxRecDepth 100000 in
set_option maxHeartbeats 1000000 in
theorem macSums_in (a : Option Addr) (c : Nat) (vb : Value) (key : List (BitVec 8)) (l : List (List (BitVec 8))) (w : World) (hv : BRow w (.slice a key.length c) key) (hvb : BRows w vb l) (hk : key.length ≤ 300) (hka : KAt w) (hbig : bigB l = false) :
    Calls Tryd.prog 10 #[.slice a key.length c, vb] w fun e w' => e = .returned (.bool true) ∧ Below w.heap.size w w' := by
  obtain ⟨hl, hm⟩ := big_false hbig
  have HV := Lib.hid hv
  have HVB := Lib.hid hvb
  have HK := Lib.hid hka
  have HBIG := Lib.hid hbig
  have HKL := Lib.hid hk
  have hz1 : ((300 : Int) < (key.length : Int)) = False := eq_false (by omega)
  obtain ⟨a2, c2, rfl⟩ := hvb.shape
  have heq := eqlNum
  have hself := eqB_self
  have hm1 := fun vb w hvb => mac_any (.slice a key.length c) vb key l w hvb
  have hm2 := fun vb w hvb => refMac_any (.slice a key.length c) vb key l.flatten w hvb
  obtain ⟨h, hh⟩ : ∃ h, h = macS key l.flatten := ⟨_, rfl⟩
  rw [← hh] at hm1 hm2
  have HM1 := Lib.hid hm1
  have HM2 := Lib.hid hm2
  clear hv hvb hk hka hbig hh hm1 hm2
  go_enter Tryd.func10, Tryd.ntmps10
  go_wp2_with (first
    | (go_at_call 31; refine (alive7_any _).mono ?_; rintro e w1 ⟨rfl, hb1⟩)
    | (go_at_call 22; refine (big_any _ l _ (HVB.out.below hb1)).mono ?_; rintro e w' ⟨rfl, rfl⟩; rw [HBIG.out])
    | (go_at_call 32; refine (HM1.out _ _ (HV.out.below hb1) (HVB.out.below hb1) (by have := HKL.out; omega) (by omega) (by omega)).mono ?_; rintro e w2 ⟨rfl, hb2⟩)
    | (go_at_call 23; refine (join_sl _ l _ (HVB.out.below (below_keep hb1 hb2)) (by omega) (by omega)).mono ?_; rintro e w3 ⟨a3, n3, c3, rfl, hown3, hb3⟩)
    | (go_at_call 33; refine (HM2.out _ _ (HV.out.below (below_keep (below_keep hb1 hb2) hb3)) hown3 (by have := HKL.out; omega) (by omega) (HK.out.below (below_keep (below_keep hb1 hb2) hb3))).mono ?_; rintro e w4 ⟨rfl, hb4⟩))
  go_ret
  exact ⟨rfl, below_keep (below_keep (below_keep hb1 hb2) hb3) hb4⟩

set_option maxHeartbeats 400000 in
theorem macSums_out (a : Option Addr) (n c : Nat) (vb : Value) (l : List (List (BitVec 8))) (w : World) (hvb : BRows w vb l) (h : bigB l = true ∨ bigB l = false ∧ 300 < n) :
    Calls Tryd.prog 10 #[.slice a n c, vb] w fun e w' => e = .returned (.bool true) ∧ Below w.heap.size w w' := by
  have HVB := Lib.hid hvb
  obtain ⟨a2, c2, rfl⟩ := hvb.shape
  clear hvb
  rcases h with h | ⟨h, h2⟩
  · have HBIG := Lib.hid h
    clear h
    go_enter Tryd.func10, Tryd.ntmps10
    go_wp2_with (first
      | (go_at_call 31; refine (alive7_any _).mono ?_; rintro e w1 ⟨rfl, hb1⟩)
      | (go_at_call 22; refine (big_any _ l _ (HVB.out.below hb1)).mono ?_; rintro e w' ⟨rfl, rfl⟩; rw [HBIG.out]))
    go_ret
    exact ⟨rfl, hb1⟩
  · have HBIG := Lib.hid h
    have hz1 : ((300 : Int) < (n : Int)) = True := eq_true (by omega)
    clear h h2
    go_enter Tryd.func10, Tryd.ntmps10
    go_wp2_with (first
      | (go_at_call 31; refine (alive7_any _).mono ?_; rintro e w1 ⟨rfl, hb1⟩)
      | (go_at_call 22; refine (big_any _ l _ (HVB.out.below hb1)).mono ?_; rintro e w' ⟨rfl, rfl⟩; rw [HBIG.out]))
    go_ret
    exact ⟨rfl, hb1⟩
theorem macSums_walk {w : World} (v : Value) (key : List (BitVec 8)) (hv : BRow w v key) (hq : key.length ≤ maxLen ∧ CapOk v) (vb : Value) (l : List (List (BitVec 8))) (hvb : BRows w vb l) (_h1 : l.length ≤ maxLen) (_h2 : ∀ m ∈ l, m.length ≤ maxLen) (hk : KAt w) :
    Calls Tryd.prog 10 #[v, vb] w fun e w' => e = .returned (.bool true) ∧ Below w.heap.size w w' := by
  obtain ⟨a, c, rfl⟩ := hv.shape
  cases h : bigB l with
  | true => exact macSums_out a _ c vb l w hvb (.inl h)
  | false =>
    by_cases h2 : 300 < key.length
    · exact macSums_out a _ c vb l w hvb (.inr ⟨h, h2⟩)
    · exact macSums_in a c vb key l w hv hvb (by omega) hk h

theorem padK_zeros (key : List (BitVec 8)) (j : Nat) (x : BitVec 8) : padK (key ++ List.replicate j 0) x = padK key x := by
  unfold padK
  refine List.map_congr_left fun i _ => ?_
  congr 1
  simp only [List.getD_eq_getElem?_getD]
  by_cases h : i < key.length
  · rw [List.getElem?_append_left h]
  · rw [List.getElem?_append_right (by omega), List.getElem?_eq_none (l := key) (by omega)]
    by_cases h2 : i - key.length < j
    · rw [List.getElem?_eq_getElem (by simpa using h2)]; simp
    · rw [List.getElem?_eq_none (by simp; omega)]
theorem macS_zeros (key m : List (BitVec 8)) (j : Nat) (h : key.length + j ≤ 64) : macS (key ++ List.replicate j 0) m = macS key m := by
  unfold macS
  rw [keyS_short (by simp; omega), keyS_short (by omega), padK_zeros, padK_zeros]
theorem macS_key (key m : List (BitVec 8)) (h : 64 < key.length) : macS ((List.range 32).map (sha key)) m = macS key m := by
  unfold macS
  rw [keyS_long h, keyS_short (by simp)]

set_option maxHeartbeats 1000000 in
theorem macKeys_out (a a2 : Option Addr) (k c k2 c2 : Nat) (n : Int) (w : World) (h : 300 < k ∨ 1000 < k2 ∨ n < 0 ∨ 64 < n) :
    Calls Tryd.prog 11 #[.slice a k c, .int .i64 n, .slice a2 k2 c2] w fun e w' => e = .returned (.bool true) ∧ Below w.heap.size w w' := by
  by_cases h1 : 300 < k
  · have hz1 : ((300 : Int) < (k : Int)) = True := eq_true (by omega)
    clear h h1
    go_enter Tryd.func11, Tryd.ntmps11
    go_wp2_with (go_at_call 31; refine (alive7_any _).mono ?_; rintro e w1 ⟨rfl, hb1⟩)
    go_ret
    exact ⟨rfl, hb1⟩
  · have hz1 : ((300 : Int) < (k : Int)) = False := eq_false (by omega)
    by_cases h2 : 1000 < k2
    · have hz2 : ((1000 : Int) < (k2 : Int)) = True := eq_true (by omega)
      clear h h1 h2
      go_enter Tryd.func11, Tryd.ntmps11
      go_wp2_with (go_at_call 31; refine (alive7_any _).mono ?_; rintro e w1 ⟨rfl, hb1⟩)
      go_ret
      exact ⟨rfl, hb1⟩
    · have hz2 : ((1000 : Int) < (k2 : Int)) = False := eq_false (by omega)
      by_cases h3 : n < 0
      · clear h h1 h2
        go_enter Tryd.func11, Tryd.ntmps11
        go_wp2_with (go_at_call 31; refine (alive7_any _).mono ?_; rintro e w1 ⟨rfl, hb1⟩)
        go_ret
        exact ⟨rfl, hb1⟩
      · have h4 : 64 < n := by omega
        clear h h1 h2
        go_enter Tryd.func11, Tryd.ntmps11
        go_wp2_with (go_at_call 31; refine (alive7_any _).mono ?_; rintro e w1 ⟨rfl, hb1⟩)
        go_ret
        exact ⟨rfl, hb1⟩

set_option maxRecDepth 100000 in
set_option maxHeartbeats 2000000 in
theorem macKeys_in (a a2 : Option Addr) (c c2 : Nat) (key m : List (BitVec 8)) (n : Nat) (w : World) (hv : BRow w (.slice a key.length c) key) (hvb : BRow w (.slice a2 m.length c2) m) (hk : key.length ≤ 300) (hm : m.length ≤ 1000) (hn : n ≤ 64) (hka : KAt w) :
    Calls Tryd.prog 11 #[.slice a key.length c, .int .i64 (n : Int), .slice a2 m.length c2] w fun e w' => e = .returned (.bool true) ∧ Below w.heap.size w w' := by
  have HV := Lib.hid hv
  have HVB := Lib.hid hvb
  have HK := Lib.hid hka
  have HKL := Lib.hid hk
  have HML := Lib.hid hm
  have hz1 : ((300 : Int) < (key.length : Int)) = False := eq_false (by omega)
  have hz2 : ((1000 : Int) < (m.length : Int)) = False := eq_false (by omega)
  have hn0 : (0 : Int) ≤ (n : Int) := by omega
  have hn1 : (n : Int) ≤ 64 := by omega
  have heq := eqlNum
  have hself := eqB_self
  obtain ⟨h, hh⟩ : ∃ h, h = macS key m := ⟨_, rfl⟩
  have HH := Lib.hid hh
  have HZ := Lib.hid (show (Tryd.prog.info? 28).map (·.size) = some (rowB 32 h).size by rw [size32, rowB_size])
  have HM := Lib.hid (show ∀ (k2 : List (BitVec 8)), macS k2 m = h → ∀ (v vb : Value) (w : World), BRow w v k2 → BRows w vb [m] → k2.length ≤ 1000000000 → Calls Tryd.prog 32 #[v, vb] w fun e w' => e = .returned (.agg (rowB 32 h)) ∧ Below w.heap.size w w' from fun k2 e v vb w h1 h2 h3 => by
    have := mac_any v vb k2 [m] w h1 h2 h3 (by simp) (by simpa using by omega)
    rw [show ([m] : List (List (BitVec 8))).flatten = m by simp, e] at this
    exact this)
  clear hv hvb hka hh hm
  by_cases hlong : 64 < key.length
  · have hz3 : ((64 : Int) < (key.length : Int)) = True := eq_true (by omega)
    have HMK := Lib.hid (macS_key key m hlong)
    obtain ⟨hky, hhk⟩ : ∃ h, h = sha key := ⟨_, rfl⟩
    have HHK := Lib.hid hhk
    have HZK := Lib.hid (show (Tryd.prog.info? 28).map (·.size) = some (rowB 32 hky).size by rw [size32, rowB_size])
    rw [← hhk, ← HH.out] at HMK
    clear hlong hk hhk
    go_enter Tryd.func11, Tryd.ntmps11
    go_wp2_with (go_at_call 31; refine (alive7_any _).mono ?_; rintro e w1 ⟨rfl, hb1⟩)
    refine (HM.out key HH.out.symm _ _ _ (HV.out.below (below_keep hb1 (below_allocS (Below.refl _ _) _))) (brows_one (heap_alloc_new _ _) (HVB.out.below (below_keep hb1 (below_allocS (Below.refl _ _) _)))) (by have := HKL.out; omega)).mono ?_
    rintro e w2 ⟨rfl, hb2⟩
    have HB2 := Lib.hid (below_keep (below_keep hb1 (below_allocS (Below.refl w1.heap.size w1) (.cells #[.slice a2 m.length c2] 25))) hb2)
    clear hb1 hb2
    go_wp2_with (first
      | (with_reducible refine wpList_alloc_row rfl 28 rfl 32 _ info32 ?_)
      | ((with_reducible show wpList _ _ _ (⟨_, .store 28 (.tmp 8) _, _, _, _, _⟩ :: _) _ _); refine wpList_store_rowTo rfl 28 (.tmp 8) _ rfl rfl w2.heap.size (rowB 32 h) rfl rfl 28 _ (heap_alloc_new _ _) HZ.out (by rw [row_size, rowB_size]) (rowB_oneCell _ _) ?_; obtain ⟨g8, eg8⟩ : ∃ g, g = w2.heap.size := ⟨_, rfl⟩; have HB3 := Lib.hid (show Below w.heap.size w ((w2.alloc (.cells (row 32 fun _ => .int .u8 0) 28)).setRow w2.heap.size (rowB 32 h)) from below_setRow (below_allocS HB2.out _) HB2.out.size _); have HG8 := Lib.hid (show ((w2.alloc (.cells (row 32 fun _ => .int .u8 0) 28)).setRow w2.heap.size (rowB 32 h)).heap[g8]? = some (.cells (rowB 32 h) 28 (0, 0)) from by rw [eg8]; exact heap_setRow_at (heap_alloc_new _ _)); generalize (w2.alloc (.cells (row 32 fun _ => .int .u8 0) 28)).setRow w2.heap.size (rowB 32 h) = w3 at *; rw [← eg8]; clear eg8)
      | (go_at_call 24; refine (refSha_any _ key _ (HV.out.below HB3.out) (by have := HKL.out; omega) (HK.out.below HB3.out)).mono ?_; rintro e w4 ⟨rfl, hb4⟩; rw [← HHK.out]; have HB4 := Lib.hid hb4; clear hb4)
      | ((with_reducible show wpList _ _ _ (⟨_, .store 28 (.tmp 9) _, _, _, _, _⟩ :: _) _ _); refine wpList_store_rowTo rfl 28 (.tmp 9) _ rfl rfl w4.heap.size (rowB 32 hky) rfl rfl 28 _ (heap_alloc_new _ _) HZK.out (by rw [row_size, rowB_size]) (rowB_oneCell _ _) ?_; obtain ⟨g9, eg9⟩ : ∃ g, g = w4.heap.size := ⟨_, rfl⟩; have HB5 := Lib.hid (show Below w3.heap.size w3 ((w4.alloc (.cells (row 32 fun _ => .int .u8 0) 28)).setRow w4.heap.size (rowB 32 hky)) from below_setRow (below_allocS HB4.out _) HB4.out.size _); have HG9 := Lib.hid (show ((w4.alloc (.cells (row 32 fun _ => .int .u8 0) 28)).setRow w4.heap.size (rowB 32 hky)).heap[g9]? = some (.cells (rowB 32 hky) 28 (0, 0)) from by rw [eg9]; exact heap_setRow_at (heap_alloc_new _ _)); generalize (w4.alloc (.cells (row 32 fun _ => .int .u8 0) 28)).setRow w4.heap.size (rowB 32 hky) = w5 at *; rw [← eg9]; clear eg9))
    try simp only [Act.put, List.setIfInBounds_toArray, List.set_cons_zero, List.set_cons_succ]
    have HBW := Lib.hid (below_keep HB3.out HB5.out)
    have hrg := range_num ((HB5.out.block _ (Array.getElem?_eq_some_iff.1 HG8.out).1).trans HG8.out)
    have hu := Tryd.underlying28
    have hi : (Tryd.prog.info? 28).map (·.size) = some (rowB 32 h).toList.length := by rw [size32]; simp [rowB_size]
    refine wp_region_plan (S := fun w' => Below w5.heap.size w5 w') [0, 1, 2, 3, 4, 5, 6] [true, true, true, false, false, true, true] (by kernel_rfl) (by kernel_rfl) (Below.refl _ _).drew (fun hHeld => ?_)
    simp only [List.filterMap_cons, List.filterMap_nil, List.getElem?_toArray, List.getElem?_cons_zero, List.getElem?_cons_succ]
    refine seqH_take (yieldsIf_load_mid (by rfl) _ _ rfl _ _ rfl _ _ (fun w hw => hrg w hw) hu rfl hi) ?_
    try simp only [Act.put, List.setIfInBounds_toArray, List.set_cons_zero, List.set_cons_succ, rowB_back]
    refine seqH_take (v := ?_) (Or.inl ⟨by rfl, ?_⟩) ?_
    rotate_left
    · (intro w hSw; go_simp; first | done | with_reducible rfl)
    try simp only [Act.put, List.setIfInBounds_toArray, List.set_cons_zero, List.set_cons_succ]
    refine seqH_take (v := ?_) (Or.inl ⟨by rfl, ?_⟩) ?_
    rotate_left
    · (intro w hSw; go_simp; first | done | with_reducible rfl)
    try simp only [Act.put, List.setIfInBounds_toArray, List.set_cons_zero, List.set_cons_succ]
    refine seqH_go (fun K hK => ?_)
    rw [if_pos (by rfl)]
    go_simp
    refine hK.out _ _ (below_allocS hHeld _) (fun hHeld2 => ?_)
    clear hK K hHeld
    have hHeld := hHeld2
    clear hHeld2
    try simp only [Act.put, List.setIfInBounds_toArray, List.set_cons_zero, List.set_cons_succ]
    refine seqH_go (fun K hK => ?_)
    rw [if_pos (by rfl)]
    go_simp
    refine (HM.out ((List.range 32).map hky) HMK.out _ _ _ ((brow_num HG9.out).below hHeld) (brows_one (w := (w5.alloc (.cells #[.slice a2 m.length c2] 25)).drew) (heap_alloc_new w5 _) (HVB.out.below (below_keep HBW.out hHeld))) (by simp)).mono ?_; rintro e w6 ⟨rfl, hbc⟩
    try dsimp only
    refine hK.out _ _ (below_keep hHeld hbc) (fun hHeld2 => ?_)
    clear hK K hHeld
    have hHeld := hHeld2
    clear hHeld2
    try simp only [Act.put, List.setIfInBounds_toArray, List.set_cons_zero, List.set_cons_succ]
    refine seqH_take (yieldsIf_sameNum (by rfl) _ _ rfl h rfl rfl) ?_
    try simp only [Act.put, List.setIfInBounds_toArray, List.set_cons_zero, List.set_cons_succ]
    refine seqH_take (v := ?_) (Or.inl ⟨by rfl, ?_⟩) ?_
    rotate_left
    · (intro w hSw; go_simp; first | done | with_reducible rfl)
    try simp only [Act.put, List.setIfInBounds_toArray, List.set_cons_zero, List.set_cons_succ]
    refine seqH_nil (NoPanic.normal ?_)
    go_wp2
    go_ret
    exact ⟨rfl, below_keep HBW.out hHeld⟩
  · have hz3 : ((64 : Int) < (key.length : Int)) = False := eq_false (by omega)
    have HKS := Lib.hid (show key.length ≤ 64 by omega)
    clear hlong hk
    go_enter Tryd.func11, Tryd.ntmps11
    go_wp2_with (go_at_call 31; refine (alive7_any _).mono ?_; rintro e w1 ⟨rfl, hb1⟩)
    refine (HM.out key HH.out.symm _ _ _ (HV.out.below (below_keep hb1 (below_allocS (Below.refl _ _) _))) (brows_one (heap_alloc_new _ _) (HVB.out.below (below_keep hb1 (below_allocS (Below.refl _ _) _)))) (by have := HKL.out; omega)).mono ?_
    rintro e w2 ⟨rfl, hb2⟩
    have HB2 := Lib.hid (below_keep (below_keep hb1 (below_allocS (Below.refl w1.heap.size w1) (.cells #[.slice a2 m.length c2] 25))) hb2)
    clear hb1 hb2
    go_wp2_with (first
      | (with_reducible refine wpList_alloc_row rfl 28 rfl 32 _ info32 ?_)
      | ((with_reducible show wpList _ _ _ (⟨_, .store 28 (.tmp 8) _, _, _, _, _⟩ :: _) _ _); refine wpList_store_rowTo rfl 28 (.tmp 8) _ rfl rfl w2.heap.size (rowB 32 h) rfl rfl 28 _ (heap_alloc_new _ _) HZ.out (by rw [row_size, rowB_size]) (rowB_oneCell _ _) ?_; obtain ⟨g8, eg8⟩ : ∃ g, g = w2.heap.size := ⟨_, rfl⟩; have HB3 := Lib.hid (show Below w.heap.size w ((w2.alloc (.cells (row 32 fun _ => .int .u8 0) 28)).setRow w2.heap.size (rowB 32 h)) from below_setRow (below_allocS HB2.out _) HB2.out.size _); have HG8 := Lib.hid (show ((w2.alloc (.cells (row 32 fun _ => .int .u8 0) 28)).setRow w2.heap.size (rowB 32 h)).heap[g8]? = some (.cells (rowB 32 h) 28 (0, 0)) from by rw [eg8]; exact heap_setRow_at (heap_alloc_new _ _)); generalize (w2.alloc (.cells (row 32 fun _ => .int .u8 0) 28)).setRow w2.heap.size (rowB 32 h) = w3 at *; rw [← eg8]; clear eg8)
      | (at_builtin; refine wpList_append_B rfl (.const (.slice none 0 0)) (.tmp 49) rfl w3.heap.size _ [] key rfl (World.ownsRow_nil _ _ _ _) (HV.out.below HB3.out) (by have := HKL.out; simp; omega) (Nat.le_refl _) ?_; intro v4 w4 hown4 hg4; rw [List.nil_append] at hown4; have HO4 := Lib.hid hown4; have HB4 := Lib.hid (show Below w3.heap.size w3 w4 from (Below.refl _ _).grown hg4 (Nat.le_refl _) (fun k hk => by cases hk)); clear hown4 hg4))
    have HKEY := Lib.hid (show OwnB w4 w3.heap.size v4 (key ++ List.replicate 0 0) from by simpa using HO4.out)
    clear HO4
    go_loopw [10, 11] (fun v i wr => ∃ j : Nat, j ≤ n ∧ key.length + j ≤ 64 ∧ i = .int .i64 j ∧ OwnB wr w3.heap.size v (key ++ List.replicate j 0) ∧ Below w3.heap.size w3 wr) (fun _ i _ => n - (intOf i).toNat)
    case atStart => exact ⟨0, Nat.zero_le _, by have := HKS.out; omega, rfl, HKEY.out, HB4.out⟩
    case round =>
      clear HKEY HB4
      obtain ⟨j, hj, hj64, rfl, hown, hb⟩ := hrel
      have HO := Lib.hid hown
      have HB := Lib.hid hb
      have HJ := Lib.hid hj64
      obtain ⟨ak, ck, ek⟩ := hown.brow.shape
      rw [List.length_append, List.length_replicate] at ek
      subst ek
      clear hown hb
      by_cases hgo : j < n ∧ key.length + j < 64
      · have hj0 : (0 : Int) ≤ (j : Int) := by omega
        have hj1 : (j : Int) < (n : Int) := by omega
        have hj2 : ((key.length + j : Nat) : Int) < 64 := by omega
        have HGO := Lib.hid hgo
        clear hgo hj64
        go_wp2_with (at_builtin; refine wpList_append_B rfl (.tmp 61) (.tmp 62) rfl w3.heap.size _ (key ++ List.replicate j 0) [0] rfl (World.ownsRow.alloc HO.out _) (brow_mk [0] (heap_alloc_new _ _)) (by simp; have := HKS.out; have := HGO.out; omega) (by have := HB.out.size; simp; omega) ?_; intro v5 w5 hown5 hg5; rw [List.append_assoc, ← List.replicate_succ'] at hown5; have HO5 := Lib.hid hown5; have HB5 := Lib.hid (show Below w3.heap.size w3 w5 from (below_allocS HB.out (.cells #[.int .u8 0] 5)).grown hg5 (by have := HB.out.size; simp; omega) (fun k hk => (World.ownsRow.lt HO.out k hk).1)); clear hown5 hg5)
        go_roundw
        case rel => exact ⟨j + 1, by omega, by have := HGO.out; omega, by go_num, HO5.out, HB5.out⟩
        case measure => simp [intOf]; omega
      · have HKZ := Lib.hid (macS_zeros key m j HJ.out)
        rw [← HH.out] at HKZ
        have HGO := Lib.hid hgo
        have hj0 : (0 : Int) ≤ (j : Int) := by omega
        by_cases hjn : j < n
        · have hj1 : (j : Int) < (n : Int) := by omega
          have hj2 : ¬ ((key.length + j : Nat) : Int) < 64 := by have := HGO.out; omega
          clear hgo hj64
          go_wp2
          have HBW := Lib.hid (below_keep HB3.out HB.out)
          have hrg := range_num ((HB.out.block _ (Array.getElem?_eq_some_iff.1 HG8.out).1).trans HG8.out)
          have hu := Tryd.underlying28
          have hi : (Tryd.prog.info? 28).map (·.size) = some (rowB 32 h).toList.length := by rw [size32]; simp [rowB_size]
          try simp only [Act.put, List.setIfInBounds_toArray, List.set_cons_zero, List.set_cons_succ]
          refine wp_region_plan (S := fun w' => Below wr.heap.size wr w') [0, 1, 2, 3, 4, 5, 6] [true, true, true, false, false, true, true] (by kernel_rfl) (by kernel_rfl) (Below.refl _ _).drew (fun hHeld => ?_)
          simp only [List.filterMap_cons, List.filterMap_nil, List.getElem?_toArray, List.getElem?_cons_zero, List.getElem?_cons_succ]
          refine seqH_take (yieldsIf_load_mid (by rfl) _ _ rfl _ _ rfl _ _ (fun w hw => hrg w hw) hu rfl hi) ?_
          try simp only [Act.put, List.setIfInBounds_toArray, List.set_cons_zero, List.set_cons_succ, rowB_back]
          refine seqH_take (v := ?_) (Or.inl ⟨by rfl, ?_⟩) ?_
          rotate_left
          · (intro w hSw; go_simp; first | done | with_reducible rfl)
          try simp only [Act.put, List.setIfInBounds_toArray, List.set_cons_zero, List.set_cons_succ]
          refine seqH_take (v := ?_) (Or.inl ⟨by rfl, ?_⟩) ?_
          rotate_left
          · (intro w hSw; go_simp; first | done | with_reducible rfl)
          try simp only [Act.put, List.setIfInBounds_toArray, List.set_cons_zero, List.set_cons_succ]
          refine seqH_go (fun K hK => ?_)
          rw [if_pos (by rfl)]
          go_simp
          refine hK.out _ _ (below_allocS hHeld _) (fun hHeld2 => ?_)
          clear hK K hHeld
          have hHeld := hHeld2
          clear hHeld2
          try simp only [Act.put, List.setIfInBounds_toArray, List.set_cons_zero, List.set_cons_succ]
          refine seqH_go (fun K hK => ?_)
          rw [if_pos (by rfl)]
          go_simp
          refine (HM.out (key ++ List.replicate j 0) HKZ.out _ _ _ (HO.out.brow.below hHeld) (brows_one (w := (wr.alloc (.cells #[.slice a2 m.length c2] 25)).drew) (heap_alloc_new wr _) (HVB.out.below (below_keep HBW.out hHeld))) (by simp; have := HJ.out; omega)).mono ?_; rintro e w6 ⟨rfl, hbc⟩
          try dsimp only
          refine hK.out _ _ (below_keep hHeld hbc) (fun hHeld2 => ?_)
          clear hK K hHeld
          have hHeld := hHeld2
          clear hHeld2
          try simp only [Act.put, List.setIfInBounds_toArray, List.set_cons_zero, List.set_cons_succ]
          refine seqH_take (yieldsIf_sameNum (by rfl) _ _ rfl h rfl rfl) ?_
          try simp only [Act.put, List.setIfInBounds_toArray, List.set_cons_zero, List.set_cons_succ]
          refine seqH_take (v := ?_) (Or.inl ⟨by rfl, ?_⟩) ?_
          rotate_left
          · (intro w hSw; go_simp; first | done | with_reducible rfl)
          try simp only [Act.put, List.setIfInBounds_toArray, List.set_cons_zero, List.set_cons_succ]
          refine seqH_nil (NoPanic.normal ?_)
          go_wp2
          go_ret
          exact ⟨rfl, below_keep HBW.out hHeld⟩
        · have hj1 : ¬ (j : Int) < (n : Int) := by omega
          clear hgo hj64
          go_wp2
          have HBW := Lib.hid (below_keep HB3.out HB.out)
          have hrg := range_num ((HB.out.block _ (Array.getElem?_eq_some_iff.1 HG8.out).1).trans HG8.out)
          have hu := Tryd.underlying28
          have hi : (Tryd.prog.info? 28).map (·.size) = some (rowB 32 h).toList.length := by rw [size32]; simp [rowB_size]
          try simp only [Act.put, List.setIfInBounds_toArray, List.set_cons_zero, List.set_cons_succ]
          refine wp_region_plan (S := fun w' => Below wr.heap.size wr w') [0, 1, 2, 3, 4, 5, 6] [true, true, true, false, false, true, true] (by kernel_rfl) (by kernel_rfl) (Below.refl _ _).drew (fun hHeld => ?_)
          simp only [List.filterMap_cons, List.filterMap_nil, List.getElem?_toArray, List.getElem?_cons_zero, List.getElem?_cons_succ]
          refine seqH_take (yieldsIf_load_mid (by rfl) _ _ rfl _ _ rfl _ _ (fun w hw => hrg w hw) hu rfl hi) ?_
          try simp only [Act.put, List.setIfInBounds_toArray, List.set_cons_zero, List.set_cons_succ, rowB_back]
          refine seqH_take (v := ?_) (Or.inl ⟨by rfl, ?_⟩) ?_
          rotate_left
          · (intro w hSw; go_simp; first | done | with_reducible rfl)
          try simp only [Act.put, List.setIfInBounds_toArray, List.set_cons_zero, List.set_cons_succ]
          refine seqH_take (v := ?_) (Or.inl ⟨by rfl, ?_⟩) ?_
          rotate_left
          · (intro w hSw; go_simp; first | done | with_reducible rfl)
          try simp only [Act.put, List.setIfInBounds_toArray, List.set_cons_zero, List.set_cons_succ]
          refine seqH_go (fun K hK => ?_)
          rw [if_pos (by rfl)]
          go_simp
          refine hK.out _ _ (below_allocS hHeld _) (fun hHeld2 => ?_)
          clear hK K hHeld
          have hHeld := hHeld2
          clear hHeld2
          try simp only [Act.put, List.setIfInBounds_toArray, List.set_cons_zero, List.set_cons_succ]
          refine seqH_go (fun K hK => ?_)
          rw [if_pos (by rfl)]
          go_simp
          refine (HM.out (key ++ List.replicate j 0) HKZ.out _ _ _ (HO.out.brow.below hHeld) (brows_one (w := (wr.alloc (.cells #[.slice a2 m.length c2] 25)).drew) (heap_alloc_new wr _) (HVB.out.below (below_keep HBW.out hHeld))) (by simp; have := HJ.out; omega)).mono ?_; rintro e w6 ⟨rfl, hbc⟩
          try dsimp only
          refine hK.out _ _ (below_keep hHeld hbc) (fun hHeld2 => ?_)
          clear hK K hHeld
          have hHeld := hHeld2
          clear hHeld2
          try simp only [Act.put, List.setIfInBounds_toArray, List.set_cons_zero, List.set_cons_succ]
          refine seqH_take (yieldsIf_sameNum (by rfl) _ _ rfl h rfl rfl) ?_
          try simp only [Act.put, List.setIfInBounds_toArray, List.set_cons_zero, List.set_cons_succ]
          refine seqH_take (v := ?_) (Or.inl ⟨by rfl, ?_⟩) ?_
          rotate_left
          · (intro w hSw; go_simp; first | done | with_reducible rfl)
          try simp only [Act.put, List.setIfInBounds_toArray, List.set_cons_zero, List.set_cons_succ]
          refine seqH_nil (NoPanic.normal ?_)
          go_wp2
          go_ret
          exact ⟨rfl, below_keep HBW.out hHeld⟩

theorem macKeys_walk {w : World} (v : Value) (key : List (BitVec 8)) (hv : BRow w v key) (hq : key.length ≤ maxLen ∧ CapOk v) (n : Int) (hn : -9223372036854775808 ≤ n ∧ n ≤ 9223372036854775807) (vb : Value) (m : List (BitVec 8)) (hvb : BRow w vb m) (hq2 : m.length ≤ maxLen ∧ CapOk vb) (hk : KAt w) :
    Calls Tryd.prog 11 #[v, .int .i64 n, vb] w fun e w' => e = .returned (.bool true) ∧ Below w.heap.size w w' := by
  obtain ⟨a, c, rfl⟩ := hv.shape
  obtain ⟨a2, c2, rfl⟩ := hvb.shape
  by_cases h : 300 < key.length ∨ 1000 < m.length ∨ n < 0 ∨ 64 < n
  · exact macKeys_out a a2 _ c _ c2 n w h
  · obtain ⟨k, rfl⟩ : ∃ k : Nat, n = (k : Int) := ⟨n.toNat, by omega⟩
    exact macKeys_in a a2 c c2 key m k w hv hvb (by omega) (by omega) (by omega) hk

end Go.Proofs.YtnnllficjljjkaaDoor
