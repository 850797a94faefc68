/-
  The walk of the law DeriveMade.
-/
import Derived.Test.YtnnllficjljjkaaDoorLawDerD
namespace Go.Proofs.YtnnllficjljjkaaDoor
open Go.RowKit
set_option linter.unusedVariables false
set_option linter.unusedSimpArgs false

set_option maxRecDepth 100000 in
set_option maxHeartbeats 2000000 in
theorem deriveMade_in (f : Nat → BitVec 8) (ai : Option Addr) (ci : Nat) (info : List (BitVec 8)) (n : Nat) (w : World) (hv : BRow w (.slice ai info.length ci) info) (hi : info.length ≤ 200) (hn0 : 1 ≤ n) (hn : n ≤ 20) (hka : KAt w) :
    Calls Tryd.prog 14 #[.agg (rowB 32 f), .slice ai info.length ci, .int .i64 (n : Int)] w fun e w' => e = .returned (.bool true) ∧ Below w.heap.size w w' := by
  have hz1 : ((200 : Int) < (info.length : Int)) = False := eq_false (by omega)
  have hn1 : (1 : Int) ≤ (n : Int) := by omega
  have hn2 : (n : Int) ≤ 20 := by omega
  have HI := Lib.hid hi
  have HK := Lib.hid hka
  obtain ⟨key, hkey⟩ : ∃ key, key = (List.range 32).map f := ⟨_, rfl⟩
  have HKEY := Lib.hid hkey
  have HKL := Lib.hid (show key.length ≤ 1000000000 by rw [hkey]; simp)
  have hk1 := fun w hv => expand_any f (.slice ai info.length ci) info (32 * n) w hv (by omega) (by omega)
  rw [← hkey] at hk1
  have hcast : ((32 * n : Nat) : Int) = 32 * (n : Int) := by omega
  rw [hcast] at hk1
  have HK1 := Lib.hid hk1
  have HB1 := Lib.hid (show Below w.heap.size w (w.alloc (.cells (rowB 32 f) 28)) from below_allocS (Below.refl _ _) _)
  have HF1 := Lib.hid (show (w.alloc (.cells (rowB 32 f) 28)).heap[w.heap.size]? = some (.cells (rowB 32 f) 28 (0, 0)) from heap_alloc_new _ _)
  have HKA := Lib.hid (HK.out.below HB1.out)
  have HV := Lib.hid (hv.below HB1.out)
  have HSZ := Lib.hid (show (Tryd.prog.info? 28).map (·.size) = some (rowB 32 f).size by rw [size32, rowB_size])
  clear hv hi hka hkey hk1
  generalize hww : w.alloc (.cells (rowB 32 f) 28) = w1 at *
  have HWW := Lib.hid hww
  clear hww
  go_enter Tryd.func14, Tryd.ntmps14
  go_wp2_with (first
    | (go_at_call 34; rw [HWW.out]; refine (alive8_any _ HKA.out).mono ?_; rintro e w2 ⟨rfl, hb2⟩; have HB2 := Lib.hid hb2; have HF2 := Lib.hid ((hb2.block _ (Array.getElem?_eq_some_iff.1 HF1.out).1).trans HF1.out); have HV2 := Lib.hid (HV.out.below hb2); clear hb2)
    | ((with_reducible show wpList _ _ _ (⟨_, .load 28 _, _, _, _, _⟩ :: _) _ _); refine wpList_load_row rfl 28 _ rfl w.heap.size rfl 28 (rowB 32 f) (0, 0) _ HF2.out Tryd.underlying28 rfl HSZ.out ?_)
    | (go_at_call 37; refine (HK1.out _ HV2.out).mono ?_; rintro e w3 ⟨⟨a3, rfl, hr3⟩, hb3⟩; have HF3 := Lib.hid ((hb3.block _ (Array.getElem?_eq_some_iff.1 HF2.out).1).trans HF2.out); have HV3 := Lib.hid (HV2.out.below hb3); have HR3 := Lib.hid hr3; have HB3 := Lib.hid (below_keep HB2.out hb3); clear HF2 HV2 HB2 hb3 hr3)
    | (go_at_call 38; refine (num8_any 0 _).mono ?_; rintro e w4 ⟨rfl, rfl⟩))
  have HT3 := Lib.hid (show BRow w3 (.slice none 0 0) (expT key info 0) from ⟨none, 0, rfl, fun _ => rfl, fun h => absurd h (by simp [expT])⟩)
  have hkey0 := HKEY.out
  have hlw : w.heap.size < w3.heap.size := (Array.getElem?_eq_some_iff.1 HF3.out).1
  clear hkey0 HK1 hcast
  go_loopw [10, 11] (fun t i wr => ∃ k : Nat, k ≤ n ∧ i = .int .i64 ((k : Int) + 1) ∧ BRow wr t (expT key info k) ∧ Below w3.heap.size w3 wr) (fun _ i _ => 30 - (intOf i).toNat)
  case atStart => exact ⟨0, by omega, rfl, HT3.out, Below.refl _ _⟩
  case round =>
    clear HT3
    obtain ⟨k, hk, rfl, ht, hb⟩ := hrel
    have HT := Lib.hid ht
    have HB := Lib.hid hb
    obtain ⟨at_, ct, et⟩ := ht.shape
    subst et
    clear ht hb
    have HG := Lib.hid ((HB.out.block _ hlw).trans HF3.out)
    have HVR := Lib.hid (HV3.out.below HB.out)
    by_cases hlt : k < n
    · have hk0 : (0 : Int) ≤ (k : Int) := by omega
      have hk1 : (k : Int) < 20 := by omega
      have hlt1 : (k : Int) + 1 ≤ (n : Int) := by omega
      have e8 : ((k : Int) + 1) = B8 (BitVec.ofNat 8 (k + 1)) := by unfold B8; rw [BitVec.toNat_ofNat]; omega
      have HBR := Lib.hid (show BRows ((wr.alloc (.cells #[.int .u8 ((k : Int) + 1)] 5)).alloc (.cells #[.slice at_ (expT key info k).length ct, .slice ai info.length ci, .slice (some ⟨wr.heap.size, 0, none⟩) 1 1] 25)) (.slice (some ⟨wr.heap.size + 1, 0, none⟩) 3 3) [expT key info k, info, [BitVec.ofNat 8 (k + 1)]] from by
        rw [e8]
        have hb1 : Below wr.heap.size wr (wr.alloc (.cells #[.int .u8 (B8 (BitVec.ofNat 8 (k + 1)))] 5)) := below_allocS (Below.refl _ _) _
        have := brows_three (c := 3) (heap_alloc_new (wr.alloc (.cells #[.int .u8 (B8 (BitVec.ofNat 8 (k + 1)))] 5)) (.cells #[.slice at_ (expT key info k).length ct, .slice ai info.length ci, .slice (some ⟨wr.heap.size, 0, none⟩) 1 1] 25)) (HT.out.below (below_allocS hb1 _)) (HVR.out.below (below_allocS hb1 _)) ((brow_mk (c := 1) [BitVec.ofNat 8 (k + 1)] (heap_alloc_new wr _)).below (below_allocS (Below.refl _ _) _))
        simpa using this)
      have HKR := Lib.hid (show BRow ((wr.alloc (.cells #[.int .u8 ((k : Int) + 1)] 5)).alloc (.cells #[.slice at_ (expT key info k).length ct, .slice ai info.length ci, .slice (some ⟨wr.heap.size, 0, none⟩) 1 1] 25)) (.slice (some ⟨w.heap.size, 0, none⟩) 32 32) key from by
        rw [HKEY.out]
        exact (brow_num HG.out).below (below_allocS (below_allocS (Below.refl _ _) _) _))
      have HFL := Lib.hid (show macS key ([expT key info k, info, [BitVec.ofNat 8 (k + 1)]] : List (List (BitVec 8))).flatten = macS key (expT key info k ++ info ++ [BitVec.ofNat 8 (k + 1)]) by simp)
      have HET := Lib.hid (show expT key info (k + 1) = (List.range 32).map (macS key (expT key info k ++ info ++ [BitVec.ofNat 8 (k + 1)])) from rfl)
      have hlen : ([expT key info k, info, [BitVec.ofNat 8 (k + 1)]] : List (List (BitVec 8))).flatten.length ≤ 999999000 := by
        have := expT_length key info k
        have := HI.out
        simp; omega
      have HLEN := Lib.hid hlen
      clear e8 hlen
      go_wp2_with fail
      refine (mac_any _ _ key _ _ HKR.out HBR.out HKL.out (by simp) HLEN.out).mono ?_
      rintro e w2 ⟨rfl, hb2⟩
      rw [HFL.out]
      obtain ⟨h, hh⟩ : ∃ h, h = macS key (expT key info k ++ info ++ [BitVec.ofNat 8 (k + 1)]) := ⟨_, rfl⟩
      rw [← hh] at HET ⊢
      have HB2 := Lib.hid (show Below wr.heap.size wr w2 from below_keep (below_allocS (below_allocS (Below.refl wr.heap.size wr) _) _) hb2)
      have HZ := Lib.hid (show (Tryd.prog.info? 28).map (·.size) = some (rowB 32 h).size by rw [size32, rowB_size])
      clear hb2 hh HBR HKR HFL HLEN
      go_wp2_with (first
        | (with_reducible refine wpList_alloc_row rfl 28 rfl 32 _ info32 ?_)
        | ((with_reducible show wpList _ _ _ (⟨_, .store 28 _ _, _, _, _, _⟩ :: _) _ _); refine wpList_store_rowTo rfl 28 (.tmp 12) _ rfl rfl w2.heap.size (rowB 32 h) rfl rfl 28 _ (heap_alloc_new _ _) HZ.out (by rw [row_size, rowB_size]) (rowB_oneCell _ _) ?_; obtain ⟨g, eg⟩ : ∃ g, g = w2.heap.size := ⟨_, rfl⟩; have HB3 := Lib.hid (show Below wr.heap.size wr ((w2.alloc (.cells (row 32 fun _ => .int .u8 0) 28)).setRow w2.heap.size (rowB 32 h)) from below_setRow (below_allocS HB2.out _) HB2.out.size _); have HGG := Lib.hid (show ((w2.alloc (.cells (row 32 fun _ => .int .u8 0) 28)).setRow w2.heap.size (rowB 32 h)).heap[g]? = some (.cells (rowB 32 h) 28 (0, 0)) from by rw [eg]; exact heap_setRow_at (heap_alloc_new _ _)); have HGL := Lib.hid (show wr.heap.size ≤ g from by rw [eg]; exact HB2.out.size); have HT3 := Lib.hid (show BRow ((w2.alloc (.cells (row 32 fun _ => .int .u8 0) 28)).setRow w2.heap.size (rowB 32 h)) (.slice (some ⟨g, 0, none⟩) 32 32) (expT key info (k + 1)) from by rw [eg, HET.out]; exact brow_num (heap_setRow_at (heap_alloc_new _ _))); generalize (w2.alloc (.cells (row 32 fun _ => .int .u8 0) 28)).setRow w2.heap.size (rowB 32 h) = w3' at *; rw [← eg]; clear eg))
      have hsl : ∀ w, (Instr.sliceAt 25 (.slice a3 (32 * n) (32 * n)) (some (.int .i64 (32 * (k : Int)))) (some (.int .i64 (32 * ((k : Int) + 1)))) none).run Tryd.prog w = .ok (.slice (cutA a3 (32 * n) (32 * k)) 32 (32 * n - 32 * k)) w := fun w => by
        have := slice_B (A := a3) (n := 32 * n) (c := 32 * n) (i := 32 * k) (k := 32 * (k + 1)) (by omega) (by omega) w
        rw [show 32 * (k + 1) - 32 * k = 32 by omega] at this
        rw [show (32 * (k : Int)) = ((32 * k : Nat) : Int) by omega, show (32 * ((k : Int) + 1)) = ((32 * (k + 1) : Nat) : Int) by omega]
        exact this
      have HSL := Lib.hid hsl
      have hrow : ∀ w', Below w3'.heap.size w3' w' → BRow w' (.slice (cutA a3 (32 * n) (32 * k)) 32 (32 * n - 32 * k)) (expT key info (k + 1)) := fun w' hb => by
        have h1 := ((HR3.out.below HB.out).below HB3.out).below hb
        have h2 := h1.cut (i := 32 * k) (k := 32 * (k + 1)) (by omega) (by rw [expS_length]; omega) (by rw [expS_length]; exact Nat.le_refl _)
        rw [show 32 * (k + 1) - 32 * k = 32 by omega] at h2
        have e1 : expS key info (32 * n) = expO key info n := by
          rw [← expS_at key info (n := 32 * n) (k := n) (Nat.le_refl _), List.take_of_length_le (by rw [expO_length]; exact Nat.le_refl _)]
        rw [e1, expO_part key info hlt] at h2
        exact h2
      have hw1 : IntKind.i64.wrap ((k : Int) + 1 - 1) = (k : Int) := by rw [IntWalk.i64_in _ (by omega)]; omega
      have hw0 : IntKind.i64.wrap (k : Int) = (k : Int) := IntWalk.i64_in _ (by omega)
      have hw2 : IntKind.i64.wrap (32 * (k : Int)) = 32 * (k : Int) := IntWalk.i64_in _ (by omega)
      have hw3 : IntKind.i64.wrap (32 * ((k : Int) + 1)) = 32 * ((k : Int) + 1) := IntWalk.i64_in _ (by omega)
      clear hsl
      refine wp_region_plan (S := fun w' => Below w3'.heap.size w3' w') [0, 1, 2, 3, 4, 5, 6, 7, 8, 9, 10] [true, true, true, true, true, true, true, true, true, true, true] (by kernel_rfl) (by kernel_rfl) (Below.refl _ _).drew (fun hHeld => ?_)
      simp only [List.filterMap_cons, List.filterMap_nil, List.getElem?_toArray, List.getElem?_cons_zero, List.getElem?_cons_succ]
      refine seqH_take (v := ?_) (Or.inl ⟨by rfl, ?_⟩) ?_
      rotate_left
      · (intro w hSw; go_simp; first | done | with_reducible rfl)
      try simp only [Act.put, List.setIfInBounds_toArray, List.set_cons_zero, List.set_cons_succ]
      refine seqH_take (v := ?_) (Or.inl ⟨by rfl, ?_⟩) ?_
      rotate_left
      · (intro w hSw; go_simp; first | done | with_reducible rfl)
      try simp only [Act.put, List.setIfInBounds_toArray, List.set_cons_zero, List.set_cons_succ]
      refine seqH_take (v := ?_) (Or.inl ⟨by rfl, ?_⟩) ?_
      rotate_left
      · (intro w hSw; go_simp; first | done | with_reducible rfl)
      try simp only [Act.put, List.setIfInBounds_toArray, List.set_cons_zero, List.set_cons_succ]
      refine seqH_take (v := ?_) (Or.inl ⟨by rfl, ?_⟩) ?_
      rotate_left
      · (intro w hSw; go_simp; first | done | with_reducible rfl)
      try simp only [Act.put, List.setIfInBounds_toArray, List.set_cons_zero, List.set_cons_succ]
      refine seqH_take (v := ?_) (Or.inl ⟨by rfl, ?_⟩) ?_
      rotate_left
      · (intro w hSw; go_simp; first | done | with_reducible rfl)
      try simp only [Act.put, List.setIfInBounds_toArray, List.set_cons_zero, List.set_cons_succ]
      refine seqH_take (v := ?_) (Or.inl ⟨by rfl, ?_⟩) ?_
      rotate_left
      · (intro w hSw; go_simp; first | done | with_reducible rfl)
      try simp only [Act.put, List.setIfInBounds_toArray, List.set_cons_zero, List.set_cons_succ]
      refine seqH_take (yieldsIf_slice (by rfl) _ _ _ _ rfl _ (fun w _ => HSL.out w)) ?_
      try simp only [Act.put, List.setIfInBounds_toArray, List.set_cons_zero, List.set_cons_succ]
      refine seqH_take (yieldsIf_str (by rfl) (.tmp 67) rfl (expT key info (k + 1)) hrow) ?_
      try simp only [Act.put, List.setIfInBounds_toArray, List.set_cons_zero, List.set_cons_succ]
      refine seqH_take (v := ?_) (Or.inl ⟨by rfl, ?_⟩) ?_
      rotate_left
      · (intro w hSw; go_simp; first | done | with_reducible rfl)
      try simp only [Act.put, List.setIfInBounds_toArray, List.set_cons_zero, List.set_cons_succ]
      refine seqH_take (yieldsIf_str (by rfl) (.tmp 69) rfl (expT key info (k + 1)) (fun w' hb => HT3.out.below hb)) ?_
      try simp only [Act.put, List.setIfInBounds_toArray, List.set_cons_zero, List.set_cons_succ]
      refine seqH_take (v := ?_) (Or.inl ⟨by rfl, ?_⟩) ?_
      rotate_left
      · (intro w hSw; go_simp; first | done | with_reducible rfl)
      try simp only [Act.put, List.setIfInBounds_toArray, List.set_cons_zero, List.set_cons_succ]
      refine seqH_nil (NoPanic.normal ?_)
      clear hrow hw0 hw1 hw2 hw3
      go_wp2
      go_roundw
      case rel => exact ⟨k + 1, by omega, by go_num, HT3.out.below hHeld, below_keep HB.out (below_keep HB3.out hHeld)⟩
      case measure => simp [intOf]; omega
    · have hlt1 : ¬ (k : Int) + 1 ≤ (n : Int) := by omega
      go_wp2
      go_ret
      exact ⟨rfl, below_keep HB1.out (below_keep HB3.out HB.out)⟩

set_option maxHeartbeats 1000000 in
theorem deriveMade_out (f : Nat → BitVec 8) (a : Option Addr) (k c : Nat) (n : Int) (w : World) (h : 200 < k ∨ n < 1 ∨ 20 < n) (hka : KAt w) :
    Calls Tryd.prog 14 #[.agg (rowB 32 f), .slice a k c, .int .i64 n] w fun e w' => e = .returned (.bool true) ∧ Below w.heap.size w w' := by
  have HB1 := Lib.hid (show Below w.heap.size w (w.alloc (.cells (rowB 32 f) 28)) from below_allocS (Below.refl _ _) _)
  have HKA := Lib.hid (hka.below HB1.out)
  clear hka
  by_cases h1 : 200 < k
  · have hz1 : ((200 : Int) < (k : Int)) = True := eq_true (by omega)
    clear h h1
    go_enter Tryd.func14, Tryd.ntmps14
    go_wp2_with (go_at_call 34; refine (alive8_any _ HKA.out).mono ?_; rintro e w2 ⟨rfl, hb2⟩)
    go_ret
    exact ⟨rfl, below_keep HB1.out hb2⟩
  · have hz1 : ((200 : Int) < (k : Int)) = False := eq_false (by omega)
    by_cases h3 : n < 1
    · clear h h1
      go_enter Tryd.func14, Tryd.ntmps14
      go_wp2_with (go_at_call 34; refine (alive8_any _ HKA.out).mono ?_; rintro e w2 ⟨rfl, hb2⟩)
      go_ret
      exact ⟨rfl, below_keep HB1.out hb2⟩
    · have h4 : 20 < n := by omega
      clear h h1
      go_enter Tryd.func14, Tryd.ntmps14
      go_wp2_with (go_at_call 34; refine (alive8_any _ HKA.out).mono ?_; rintro e w2 ⟨rfl, hb2⟩)
      go_ret
      exact ⟨rfl, below_keep HB1.out hb2⟩
theorem deriveMade_walk {w : World} (f : Nat → BitVec 8) (v : Value) (info : List (BitVec 8)) (hv : BRow w v info) (_hq : info.length ≤ maxLen ∧ CapOk v) (n : Int) (_hn : -9223372036854775808 ≤ n ∧ n ≤ 9223372036854775807) (hk : KAt w) :
    Calls Tryd.prog 14 #[.agg (rowB 32 f), v, .int .i64 n] w fun e w' => e = .returned (.bool true) ∧ Below w.heap.size w w' := by
  obtain ⟨a, c, rfl⟩ := hv.shape
  by_cases h : 200 < info.length ∨ n < 1 ∨ 20 < n
  · exact deriveMade_out f a _ c n w h hk
  · have := deriveMade_in f a c info n.toNat w hv (by omega) (by omega) (by omega) hk
    rw [show ((n.toNat : Nat) : Int) = n by omega] at this
    exact this

end Go.Proofs.YtnnllficjljjkaaDoor
