/-
  The walks of the laws DeriveBegins, DeriveMost, DeriveSalts.
-/
import Derived.Test.YtnnllficjljjkaaDoorLawDerA
import Derived.Test.YtnnllficjljjkaaDoorLawMacA
namespace Go.Proofs.YtnnllficjljjkaaDoor
open Go.RowKit
set_option linter.unusedVariables false
set_option linter.unusedSimpArgs false

set_option maxRecDepth 100000 in
set_option maxHeartbeats 1000000 in
theorem deriveBegins_in (f : Nat → BitVec 8) (a : Option Addr) (c : Nat) (info : List (BitVec 8)) (n m : Nat) (w : World) (hv : BRow w (.slice a info.length c) info) (hi : info.length ≤ 300) (hnm : n ≤ m) (hm : m ≤ 1000) (hka : KAt w) :
    Calls Tryd.prog 13 #[.agg (rowB 32 f), .slice a info.length c, .int .i64 (n : Int), .int .i64 (m : Int)] w fun e w' => e = .returned (.bool true) ∧ Below w.heap.size w w' := by
  have hz1 : ((300 : Int) < (info.length : Int)) = False := eq_false (by omega)
  have hn0 : (0 : Int) ≤ (n : Int) := by omega
  have hn1 : (n : Int) ≤ (m : Int) := by omega
  have hm1 : (m : Int) ≤ 1000 := by omega
  have HIL := Lib.hid hi
  have HK := Lib.hid hka
  have hk1 := fun (v : Value) w (k : Nat) (hk : k ≤ 1000) hv => expand_any f v info k w hv (by omega) (by omega)
  obtain ⟨key, hkey⟩ : ∃ key, key = (List.range 32).map f := ⟨_, rfl⟩
  rw [← hkey] at hk1
  have HK1 := Lib.hid hk1
  have HNM := Lib.hid hnm
  have HM := Lib.hid hm
  have HB1 := Lib.hid (show Below w.heap.size w (w.alloc (.cells (rowB 32 f) 28)) from below_allocS (Below.refl _ _) _)
  have HF1 := Lib.hid (show (w.alloc (.cells (rowB 32 f) 28)).heap[w.heap.size]? = some (.cells (rowB 32 f) 28 (0, 0)) from heap_alloc_new _ _)
  have HKA := Lib.hid (HK.out.below HB1.out)
  have HV := Lib.hid (hv.below HB1.out)
  have HSZ := Lib.hid (show (Tryd.prog.info? 28).map (·.size) = some (rowB 32 f).size by rw [size32, rowB_size])
  clear hv hi hka hkey hk1 hnm hm
  generalize hww : w.alloc (.cells (rowB 32 f) 28) = w1 at *
  have HWW := Lib.hid hww
  clear hww
  go_enter Tryd.func13, Tryd.ntmps13
  go_wp2_with (first
    | (go_at_call 34; rw [HWW.out]; refine (alive8_any _ HKA.out).mono ?_; rintro e w2 ⟨rfl, hb2⟩; have HB2 := Lib.hid hb2; have HF2 := Lib.hid ((hb2.block _ (Array.getElem?_eq_some_iff.1 HF1.out).1).trans HF1.out); have HV2 := Lib.hid (HV.out.below hb2); clear hb2)
    | ((with_reducible show wpList _ _ _ (⟨some 37, .load 28 _, _, _, _, _⟩ :: _) _ _); refine wpList_load_row rfl 28 _ rfl w.heap.size rfl 28 (rowB 32 f) (0, 0) _ HF2.out Tryd.underlying28 rfl HSZ.out ?_)
    | ((with_reducible show wpList _ _ _ (⟨some 44, .load 28 _, _, _, _, _⟩ :: _) _ _); refine wpList_load_row rfl 28 _ rfl w.heap.size rfl 28 (rowB 32 f) (0, 0) _ HF3.out Tryd.underlying28 rfl HSZ.out ?_)
    | (go_at_call 37; first
      | (refine (HK1.out _ _ n (by have := HNM.out; have := HM.out; omega) HV2.out).mono ?_; rintro e w3 ⟨⟨a3, rfl, hr3⟩, hb3⟩; have HF3 := Lib.hid ((hb3.block _ (Array.getElem?_eq_some_iff.1 HF2.out).1).trans HF2.out); have HV3 := Lib.hid (HV2.out.below hb3); have HR3 := Lib.hid hr3; have HB3 := Lib.hid (below_keep HB2.out hb3); clear HF2 HV2 HB2 hb3 hr3)
      | (refine (HK1.out _ _ m HM.out HV3.out).mono ?_; rintro e w4 ⟨⟨a4, rfl, hr4⟩, hb4⟩; have HR34 := Lib.hid (HR3.out.below hb4); have HR4 := Lib.hid hr4; have HB4 := Lib.hid (below_keep HB3.out hb4); clear hb4 hr4)))
  have hsn : ∀ w', Below w4.heap.size w4 w' → BRow w' (.slice a4 n m) (expS key info n) := fun w' hb => by
    have h1 := (HR4.out.below hb).cutHi (k := n) (by rw [expS_length]; exact HNM.out) (by rw [expS_length]; exact Nat.le_refl _)
    rw [expS_take key info HNM.out] at h1
    exact h1
  refine wp_region_plan (S := fun w' => Below w4.heap.size w4 w') [0, 2, 1, 3, 4, 5, 6, 7, 8, 9, 10, 11, 12, 13, 14, 15, 16, 17, 18, 19, 20, 21] [true, true, false, false, true, true, true, true, true, true, true, true, true, true, true, true, true, true, true, true, true, true] (by kernel_rfl) (by kernel_rfl) (Below.refl _ _).drew (fun hHeld => ?_)
  simp only [List.filterMap_cons, List.filterMap_nil, List.getElem?_toArray, List.getElem?_cons_zero, List.getElem?_cons_succ]
  refine seqH_take (v := ?_) (Or.inl ⟨by rfl, ?_⟩) ?_
  rotate_left
  · (intro w hSw; go_simp; first | done | with_reducible rfl)
  try simp only [Act.put, List.setIfInBounds_toArray, List.set_cons_zero, List.set_cons_succ]
  refine seqH_take (v := ?_) (Or.inl ⟨by rfl, ?_⟩) ?_
  rotate_left
  · (intro w hSw; go_simp; first | done | with_reducible rfl)
  try simp only [Act.put, List.setIfInBounds_toArray, List.set_cons_zero, List.set_cons_succ]
  refine seqH_go (fun K hK => ?_)
  rw [if_pos (by rfl)]
  go_simp
  refine (num8_any 0 _).mono ?_; rintro e w5 ⟨rfl, rfl⟩
  try dsimp only
  refine hK.out _ _ hHeld (fun hHeld2 => ?_)
  clear hK K hHeld
  have hHeld := hHeld2
  clear hHeld2
  try simp only [Act.put, List.setIfInBounds_toArray, List.set_cons_zero, List.set_cons_succ]
  refine seqH_go (fun K hK => ?_)
  rw [if_pos (by rfl)]
  go_simp
  refine (num8_any 0 _).mono ?_; rintro e w6 ⟨rfl, rfl⟩
  try dsimp only
  refine hK.out _ _ hHeld (fun hHeld2 => ?_)
  clear hK K hHeld
  have hHeld := hHeld2
  clear hHeld2
  try simp only [Act.put, List.setIfInBounds_toArray, List.set_cons_zero, List.set_cons_succ]
  refine seqH_take (v := ?_) (Or.inl ⟨by rfl, ?_⟩) ?_
  rotate_left
  · (intro w hSw; go_simp; first | done | with_reducible rfl)
  try simp only [Act.put, List.setIfInBounds_toArray, List.set_cons_zero, List.set_cons_succ]
  refine seqH_take (v := ?_) (Or.inl ⟨by rfl, ?_⟩) ?_
  rotate_left
  · (intro w hSw; go_simp; first | done | with_reducible rfl)
  try simp only [Act.put, List.setIfInBounds_toArray, List.set_cons_zero, List.set_cons_succ]
  refine seqH_take (v := ?_) (Or.inl ⟨by rfl, ?_⟩) ?_
  rotate_left
  · (intro w hSw; go_simp; first | done | with_reducible rfl)
  try simp only [Act.put, List.setIfInBounds_toArray, List.set_cons_zero, List.set_cons_succ]
  refine seqH_take (v := ?_) (Or.inl ⟨by rfl, ?_⟩) ?_
  rotate_left
  · (intro w hSw; go_simp; first | done | with_reducible rfl)
  try simp only [Act.put, List.setIfInBounds_toArray, List.set_cons_zero, List.set_cons_succ]
  refine seqH_take (v := ?_) (Or.inl ⟨by rfl, ?_⟩) ?_
  rotate_left
  · (intro w hSw; go_simp; first | done | with_reducible rfl)
  try simp only [Act.put, List.setIfInBounds_toArray, List.set_cons_zero, List.set_cons_succ]
  refine seqH_take (v := ?_) (Or.inl ⟨by rfl, ?_⟩) ?_
  rotate_left
  · (intro w hSw; go_simp; first | done | with_reducible rfl)
  try simp only [Act.put, List.setIfInBounds_toArray, List.set_cons_zero, List.set_cons_succ]
  refine seqH_take (v := ?_) (Or.inl ⟨by rfl, ?_⟩) ?_
  rotate_left
  · (intro w hSw; go_simp; first | done | with_reducible rfl)
  try simp only [Act.put, List.setIfInBounds_toArray, List.set_cons_zero, List.set_cons_succ]
  refine seqH_take (v := ?_) (Or.inl ⟨by rfl, ?_⟩) ?_
  rotate_left
  · (intro w hSw; go_simp; first | done | with_reducible rfl)
  try simp only [Act.put, List.setIfInBounds_toArray, List.set_cons_zero, List.set_cons_succ]
  refine seqH_take (v := ?_) (Or.inl ⟨by rfl, ?_⟩) ?_
  rotate_left
  · (intro w hSw; go_simp; first | done | with_reducible rfl)
  try simp only [Act.put, List.setIfInBounds_toArray, List.set_cons_zero, List.set_cons_succ]
  refine seqH_take (v := ?_) (Or.inl ⟨by rfl, ?_⟩) ?_
  rotate_left
  · (intro w hSw; go_simp; first | done | with_reducible rfl)
  try simp only [Act.put, List.setIfInBounds_toArray, List.set_cons_zero, List.set_cons_succ]
  refine seqH_take (v := ?_) (Or.inl ⟨by rfl, ?_⟩) ?_
  rotate_left
  · (intro w hSw; go_simp; first | done | with_reducible rfl)
  try simp only [Act.put, List.setIfInBounds_toArray, List.set_cons_zero, List.set_cons_succ]
  refine seqH_take (yieldsIf_slice (by rfl) _ _ _ _ rfl _ (fun w _ => slice_hi HNM.out w)) ?_
  try simp only [Act.put, List.setIfInBounds_toArray, List.set_cons_zero, List.set_cons_succ]
  refine seqH_take (yieldsIf_str (by rfl) (.tmp 65) rfl (expS key info n) hsn) ?_
  try simp only [Act.put, List.setIfInBounds_toArray, List.set_cons_zero, List.set_cons_succ]
  refine seqH_take (v := ?_) (Or.inl ⟨by rfl, ?_⟩) ?_
  rotate_left
  · (intro w hSw; go_simp; first | done | with_reducible rfl)
  try simp only [Act.put, List.setIfInBounds_toArray, List.set_cons_zero, List.set_cons_succ]
  refine seqH_take (yieldsIf_str (by rfl) (.tmp 67) rfl (expS key info n) (fun w' hb => HR34.out.below hb)) ?_
  try simp only [Act.put, List.setIfInBounds_toArray, List.set_cons_zero, List.set_cons_succ]
  refine seqH_take (v := ?_) (Or.inl ⟨by rfl, ?_⟩) ?_
  rotate_left
  · (intro w hSw; go_simp; first | done | with_reducible rfl)
  try simp only [Act.put, List.setIfInBounds_toArray, List.set_cons_zero, List.set_cons_succ]
  refine seqH_take (v := ?_) (Or.inl ⟨by rfl, ?_⟩) ?_
  rotate_left
  · (intro w hSw; go_simp; first | done | with_reducible rfl)
  try simp only [Act.put, List.setIfInBounds_toArray, List.set_cons_zero, List.set_cons_succ]
  refine seqH_take (v := ?_) (Or.inl ⟨by rfl, ?_⟩) ?_
  rotate_left
  · (intro w hSw; go_simp; first | done | with_reducible rfl)
  try simp only [Act.put, List.setIfInBounds_toArray, List.set_cons_zero, List.set_cons_succ]
  refine seqH_nil (NoPanic.normal ?_)
  clear hsn
  go_wp2
  go_ret
  exact ⟨rfl, below_keep HB1.out (below_keep HB4.out hHeld)⟩

set_option maxHeartbeats 1000000 in
theorem deriveBegins_out (f : Nat → BitVec 8) (a : Option Addr) (k c : Nat) (n m : Int) (w : World) (h : 300 < k ∨ n < 0 ∨ m < n ∨ 1000 < m) (hka : KAt w) :
    Calls Tryd.prog 13 #[.agg (rowB 32 f), .slice a k c, .int .i64 n, .int .i64 m] w fun e w' => e = .returned (.bool true) ∧ Below w.heap.size w w' := by
  have HB1 := Lib.hid (show Below w.heap.size w (w.alloc (.cells (rowB 32 f) 28)) from below_allocS (Below.refl _ _) _)
  have HKA := Lib.hid (hka.below HB1.out)
  clear hka
  by_cases h1 : 300 < k
  · have hz1 : ((300 : Int) < (k : Int)) = True := eq_true (by omega)
    clear h h1
    go_enter Tryd.func13, Tryd.ntmps13
    go_wp2_with (go_at_call 34; refine (alive8_any _ HKA.out).mono ?_; rintro e w2 ⟨rfl, hb2⟩)
    go_ret
    exact ⟨rfl, below_keep HB1.out hb2⟩
  · have hz1 : ((300 : Int) < (k : Int)) = False := eq_false (by omega)
    by_cases h2 : n < 0
    · clear h h1
      go_enter Tryd.func13, Tryd.ntmps13
      go_wp2_with (go_at_call 34; refine (alive8_any _ HKA.out).mono ?_; rintro e w2 ⟨rfl, hb2⟩)
      go_ret
      exact ⟨rfl, below_keep HB1.out hb2⟩
    · by_cases h3 : m < n
      · clear h h1
        go_enter Tryd.func13, Tryd.ntmps13
        go_wp2_with (go_at_call 34; refine (alive8_any _ HKA.out).mono ?_; rintro e w2 ⟨rfl, hb2⟩)
        go_ret
        exact ⟨rfl, below_keep HB1.out hb2⟩
      · have h4 : 1000 < m := by omega
        clear h h1
        go_enter Tryd.func13, Tryd.ntmps13
        go_wp2_with (go_at_call 34; refine (alive8_any _ HKA.out).mono ?_; rintro e w2 ⟨rfl, hb2⟩)
        go_ret
        exact ⟨rfl, below_keep HB1.out hb2⟩
theorem deriveBegins_walk {w : World} (f : Nat → BitVec 8) (v : Value) (info : List (BitVec 8)) (hv : BRow w v info) (_hq : info.length ≤ maxLen ∧ CapOk v) (n : Int) (_hn : -9223372036854775808 ≤ n ∧ n ≤ 9223372036854775807) (m : Int) (_hm : -9223372036854775808 ≤ m ∧ m ≤ 9223372036854775807) (hk : KAt w) :
    Calls Tryd.prog 13 #[.agg (rowB 32 f), v, .int .i64 n, .int .i64 m] w fun e w' => e = .returned (.bool true) ∧ Below w.heap.size w w' := by
  obtain ⟨a, c, rfl⟩ := hv.shape
  by_cases h : 300 < info.length ∨ n < 0 ∨ m < n ∨ 1000 < m
  · exact deriveBegins_out f a _ c n m w h hk
  · have := deriveBegins_in f a c info n.toNat m.toNat w hv (by omega) (by omega) (by omega) hk
    rw [show ((n.toNat : Nat) : Int) = n by omega, show ((m.toNat : Nat) : Int) = m by omega] at this
    exact this

set_option maxRecDepth 100000 in
set_option maxHeartbeats 1000000 in
theorem deriveMost_any (f : Nat → BitVec 8) (x : Int) (w : World) (hx : -9223372036854775808 ≤ x ∧ x ≤ 9223372036854775807) (hka : KAt w) :
    Calls Tryd.prog 15 #[.agg (rowB 32 f), .int .i64 x] w fun e w' => e = .returned (.bool true) ∧ Below w.heap.size w w' := by
  have HB1 := Lib.hid (show Below w.heap.size w (w.alloc (.cells (rowB 32 f) 28)) from below_allocS (Below.refl _ _) _)
  have HF1 := Lib.hid (show (w.alloc (.cells (rowB 32 f) 28)).heap[w.heap.size]? = some (.cells (rowB 32 f) 28 (0, 0)) from heap_alloc_new _ _)
  have HKA := Lib.hid (hka.below HB1.out)
  have HSZ := Lib.hid (show (Tryd.prog.info? 28).map (·.size) = some (rowB 32 f).size by rw [size32, rowB_size])
  clear hka
  by_cases h1 : x < -1
  · clear hx
    go_enter Tryd.func15, Tryd.ntmps15
    go_wp2_with (go_at_call 34; refine (alive8_any _ HKA.out).mono ?_; rintro e w2 ⟨rfl, hb2⟩)
    go_ret
    exact ⟨rfl, below_keep HB1.out hb2⟩
  · by_cases h2 : 1000 < x
    · clear hx
      go_enter Tryd.func15, Tryd.ntmps15
      go_wp2_with (go_at_call 34; refine (alive8_any _ HKA.out).mono ?_; rintro e w2 ⟨rfl, hb2⟩)
      go_ret
      exact ⟨rfl, below_keep HB1.out hb2⟩
    · clear hx
      have hx0 : -1 ≤ x := by omega
      have hx1 : x ≤ 1000 := by omega
      clear h1 h2
      have kc := fun (w : World) (C : Array Value) (n c : Nat) => Lib.run_convert_bytes_const (P := Tryd.prog) w 25 5 C n c Tryd.underlying25 Tryd.underlying5
      generalize hww : w.alloc (.cells (rowB 32 f) 28) = w1 at *
      have HWW := Lib.hid hww
      clear hww
      go_enter Tryd.func15, Tryd.ntmps15
      go_wp2_with (first
        | (go_at_call 34; rw [HWW.out]; refine (alive8_any _ HKA.out).mono ?_; rintro e w2 ⟨rfl, hb2⟩; have HF2 := Lib.hid ((hb2.block _ (Array.getElem?_eq_some_iff.1 HF1.out).1).trans HF1.out))
        | ((with_reducible show wpList _ _ _ (⟨_, .load 28 _, _, _, _, _⟩ :: _) _ _); refine wpList_load_row rfl 28 _ rfl w.heap.size rfl 28 (rowB 32 f) (0, 0) _ HF2.out Tryd.underlying28 rfl HSZ.out ?_))
      have HM := Lib.hid (show BRow (w2.alloc (.cells #[.int .u8 120] 5 (1, 2))) (.slice (some ⟨w2.heap.size, 0, none⟩) 1 1) [120] from brow_mk (c := 1) [120] (heap_alloc_new w2 _))
      have HB2 := Lib.hid (show Below w1.heap.size w1 (w2.alloc (.cells #[.int .u8 120] 5 (1, 2))) from below_allocS hb2 _)
      clear hb2 kc
      by_cases h0 : 0 < x
      · refine (expand_bad f _ (8160 + x) _ (.inr (by omega))).mono ?_
        rintro e w3 ⟨rfl, hb3⟩
        go_wp2_with (go_at_call 38; refine (num8_any 1 _).mono ?_; rintro e w4 ⟨rfl, rfl⟩)
        go_ret
        exact ⟨rfl, below_keep HB1.out (below_keep HB2.out hb3)⟩
      · obtain ⟨m, hm⟩ : ∃ m : Nat, 8160 + x = (m : Int) := ⟨(8160 + x).toNat, by omega⟩
        have hx2 : x ≤ 0 := by omega
        rw [hm]
        refine (expand_any f _ [120] m _ HM.out (by decide) (by omega)).mono ?_
        rintro e w3 ⟨⟨a3, rfl, hr3⟩, hb3⟩
        clear hr3
        go_wp2_with (go_at_call 38; refine (num8_any 0 _).mono ?_; rintro e w4 ⟨rfl, rfl⟩)
        go_ret
        exact ⟨rfl, below_keep HB1.out (below_keep HB2.out hb3)⟩
theorem deriveMost_walk {w : World} (f : Nat → BitVec 8) (x : Int) (hx : -9223372036854775808 ≤ x ∧ x ≤ 9223372036854775807) (hk : KAt w) :
    Calls Tryd.prog 15 #[.agg (rowB 32 f), .int .i64 x] w fun e w' => e = .returned (.bool true) ∧ Below w.heap.size w w' := deriveMost_any f x w hx hk

end Go.Proofs.YtnnllficjljjkaaDoor
