/-
  The walk of the document's own Mac.
-/
import Derived.Test.YtnnllficjljjkaaDoorMac
import Derived.Test.YtnnllficjljjkaaDoorRefSha
namespace Go.Proofs.YtnnllficjljjkaaDoor
open Go.RowKit
set_option linter.unusedVariables false
set_option linter.unusedSimpArgs false

theorem own_row {w : World} {g base n : Nat} {f : Nat → BitVec 8} (h : w.heap[g]? = some (.cells (rowB n f) 5 (0, 0))) (hb : base ≤ g) (hn : n ≤ 1000000000) : OwnB w base (.slice (some ⟨g, 0, none⟩) n n) ((List.range n).map f) := by
  refine ⟨by simp [encB], .inr ⟨g, n, rowB n f, by simp, hb, h, by simp, by unfold maxLen; omega, by simp [rowB_size], ?_⟩⟩
  rw [rowB_toList]
  rw [List.take_of_length_le (by simp)]
  simp [encB, Function.comp_def]

structure RMacAt (w : World) (key : List (BitVec 8)) (k : Nat) (gi go : Nat) (wr : World) : Prop where
  hi : wr.heap[gi]? = some (.cells (rowB 64 (padT key 54 k)) 5 (0, 0))
  ho : wr.heap[go]? = some (.cells (rowB 64 (padT key 92 k)) 5 (0, 0))
  l1 : w.heap.size ≤ gi
  l2 : gi < go
  hb : Below w.heap.size w wr

set_option maxRecDepth 100000 in
set_option maxHeartbeats 2000000 in
theorem refMac_from (a a2 : Option Addr) (c c2 : Nat) (key m : List (BitVec 8)) (w : World) (hv : BRow w (.slice a key.length c) key) (hvb : BRow w (.slice a2 m.length c2) m) (hk : key.length ≤ 64) (hm : m.length ≤ 999999000) (hka : KAt w) :
    Calls Tryd.prog 33 #[.slice a key.length c, .slice a2 m.length c2] w fun e w' => e = .returned (.agg (rowB 32 (sha (padK key 92 ++ (List.range 32).map (sha (padK key 54 ++ m)))))) ∧ Below w.heap.size w w' := by
  have hz1 : ((64 : Int) < (key.length : Int)) = False := eq_false (by omega)
  have hmk : ∀ w, (Instr.makeSlice 25 (.int .i64 64) (.int .i64 64)).run Tryd.prog w = .ok (.slice (some ⟨w.heap.size, 0, none⟩) 64 64) (w.alloc (.cells (rowB 64 fun _ => 0) 5)) := make_B 64 (by decide)
  have HL := Lib.hid hk
  have HM := Lib.hid hm
  have HV := Lib.hid hv
  have HVB := Lib.hid hvb
  have HK := Lib.hid hka
  clear hv hvb hk hm hka
  go_enter Tryd.func33, Tryd.ntmps33
  have HB1 := Lib.hid (show Below w.heap.size w (w.alloc (.cells (row 32 fun _ => .int .u8 0) 28)) from below_allocS (Below.refl _ _) _)
  have HR1 := Lib.hid (show (w.alloc (.cells (row 32 fun _ => .int .u8 0) 28)).heap[w.heap.size]? = some (.cells (row 32 fun _ => .int .u8 0) 28 (0, 0)) from heap_alloc_new _ _)
  have HK1 := Lib.hid (HV.out.below HB1.out)
  have HVB1 := Lib.hid (HVB.out.below HB1.out)
  have HKA1 := Lib.hid (HK.out.below HB1.out)
  clear HV HVB HK
  go_wp2_with (first
    | (with_reducible refine wpList_alloc_row rfl 28 rfl 32 _ info32 ?_; generalize w.alloc (.cells (row 32 fun _ => .int .u8 0) 28) = w1 at *; have HG1 := Lib.hid (show ((w1.alloc (.cells (rowB 64 fun _ => 0) 5)).alloc (.cells (rowB 64 fun _ => 0) 5)).heap[w1.heap.size]? = some (.cells (rowB 64 fun _ => 0) 5 (0, 0)) from heap_alloc2_old _ _ _); have HG2 := Lib.hid (show ((w1.alloc (.cells (rowB 64 fun _ => 0) 5)).alloc (.cells (rowB 64 fun _ => 0) 5)).heap[w1.heap.size + 1]? = some (.cells (rowB 64 fun _ => 0) 5 (0, 0)) from heap_alloc2_new _ _ _); have HB2 := Lib.hid (show Below w1.heap.size w1 ((w1.alloc (.cells (rowB 64 fun _ => 0) 5)).alloc (.cells (rowB 64 fun _ => 0) 5)) from below_allocS (below_allocS (Below.refl _ _) _) _))
    | (refine wpList_copy_key rfl (.tmp 18) (.tmp 19) rfl w1.heap.size key 54 rfl (HK1.out.below HB2.out) HL.out HG1.out ?_; intro w2 hg2 hgr2; have HG3 := Lib.hid hg2; have HB3 := Lib.hid (HB2.out.grown hgr2 HB2.out.size (fun k hk => by cases hk; exact Nat.le_refl _)); have HG4 := Lib.hid ((hgr2.block _ (Array.getElem?_eq_some_iff.1 HG2.out).1 (by intro e; injection e with e; omega)).trans HG2.out); clear hg2 hgr2)
    | (refine wpList_copy_key rfl (.tmp 21) (.tmp 22) rfl (w1.heap.size + 1) key 92 rfl (HK1.out.below HB3.out) HL.out HG4.out ?_; intro w3 hg3 hgr3; have HA3 := Lib.hid (show RMacAt w1 key 0 w1.heap.size (w1.heap.size + 1) w3 from ⟨(hgr3.block _ (Array.getElem?_eq_some_iff.1 HG3.out).1 (by intro e; injection e with e; omega)).trans HG3.out, hg3, Nat.le_refl _, by omega, HB3.out.grown hgr3 HB3.out.size (fun k hk => by cases hk; omega)⟩); clear hg3 hgr3))
  clear hmk HG1 HG2 HB2 HG3 HB3 HG4
  go_loopw [8] (fun i wr => ∃ k : Nat, k ≤ 64 ∧ i = .int .i64 k ∧ RMacAt w1 key k w1.heap.size (w1.heap.size + 1) wr) (fun i _ => 64 - (intOf i).toNat)
  case atStart => exact ⟨0, by omega, rfl, HA3.out⟩
  case round =>
    clear HA3
    obtain ⟨k, hk, rfl, hA⟩ := hrel
    have HA := Lib.hid hA
    clear hA
    by_cases hlt : k < 64
    · have hk0 : (0 : Int) ≤ (k : Int) := by omega
      have hk1 : (k : Int) < 64 := by omega
      have ci : wr.cell? ⟨w1.heap.size, k, none⟩ = some (.int .u8 (B8 (padT key 54 k k))) := cell_rowB HA.out.hi hlt
      have fi : wr.frozen? ⟨w1.heap.size, k, none⟩ = false := frozen_of_row wr _ _ _ _ HA.out.hi
      have co : wr.cell? ⟨w1.heap.size + 1, k, none⟩ = some (.int .u8 (B8 (padT key 92 k k))) := cell_rowB HA.out.ho hlt
      have fo : wr.frozen? ⟨w1.heap.size + 1, k, none⟩ = false := frozen_of_row wr _ _ _ _ HA.out.ho
      have HST := Lib.hid (padT_step key 54 k)
      have HST2 := Lib.hid (padT_step key 92 k)
      have hx : bits .xor .u8 (B8 (padT key 54 k k)) 54 = B8 (padT key 54 k k ^^^ 54) := B8_xor (padT key 54 k k) 54
      have hy : bits .xor .u8 (B8 (padT key 92 k k)) 92 = B8 (padT key 92 k k ^^^ 92) := B8_xor (padT key 92 k k) 92
      generalize padT key 54 k k = p at *
      generalize padT key 92 k k = q at *
      generalize p ^^^ 54 = p1 at *
      generalize q ^^^ 92 = q1 at *
      go_wp2_with fail
      go_roundw
      case rel =>
        refine ⟨k + 1, by omega, by go_num, ?_, ?_, Nat.le_refl _, by omega, (HA.out.hb.setCell (Nat.le_refl _) _).setCell (by simp) _⟩
        · refine (heap_setCell_other _ _ _ _ (by simp)).trans ?_
          rw [← HST.out]
          exact heap_set_rowB _ HA.out.hi hlt
        · rw [← HST2.out]
          exact heap_set_rowB _ ((heap_setCell_other _ _ _ _ (by simp)).trans HA.out.ho) hlt
      case measure => simp [intOf]; omega
    · obtain rfl : k = 64 := by omega
      rw [show ((64 : Nat) : Int) = 64 from rfl]
      have HI := Lib.hid (show OwnB wr w1.heap.size (.slice (some ⟨w1.heap.size, 0, none⟩) 64 64) (padK key 54) from by rw [← padT_full]; exact own_row HA.out.hi (Nat.le_refl _) (by decide))
      have HO := Lib.hid (show OwnB wr w1.heap.size (.slice (some ⟨w1.heap.size + 1, 0, none⟩) 64 64) (padK key 92) from by rw [← padT_full]; exact own_row HA.out.ho (by omega) (by decide))
      have hsz1 := HA.out.hb.size
      go_wp2_with (at_builtin; (refine wpList_append_B rfl (.tmp 44) (.tmp 45) rfl w1.heap.size _ (padK key 54) m rfl HI.out (HVB1.out.below HA.out.hb) (by rw [padK_length]; have := HM.out; omega) hsz1 ?_); (intro v4 w4 hown4 hg4; have HO4 := Lib.hid hown4; have HB4 := Lib.hid (HA.out.hb.grown hg4 hsz1 (fun k hk => by cases hk; exact Nat.le_refl _)); have HO5 := Lib.hid (World.ownsRow.kept HO.out hg4 (.inr (show (some (w1.heap.size + 1) : Option Nat) ≠ some w1.heap.size from by intro e; injection e with e; omega))); clear hown4 hg4))
      refine (refSha_any _ (padK key 54 ++ m) _ HO4.out.brow (by rw [List.length_append, padK_length]; have := HM.out; omega) (HKA1.out.below HB4.out)).mono ?_
      rintro e w5 ⟨rfl, hb5⟩
      have HB5 := Lib.hid (below_keep HB4.out hb5)
      have HO6 := Lib.hid (World.ownsRow.kept HO5.out (grown_of_below (r := none) hb5) (.inr nofun))
      obtain ⟨h1, hh1⟩ : ∃ h1, h1 = sha (padK key 54 ++ m) := ⟨_, rfl⟩
      rw [← hh1]
      have HH1 := Lib.hid hh1
      have HZ := Lib.hid (show (Tryd.prog.info? 28).map (·.size) = some (rowB 32 h1).size by rw [size32, rowB_size])
      clear hb5 hh1 HI HO HO4 HB4 HO5 hsz1
      go_wp2_with (first
        | (with_reducible refine wpList_alloc_row rfl 28 rfl 32 _ info32 ?_)
        | ((with_reducible show wpList _ _ _ (⟨_, .store 28 _ _, _, _, _, _⟩ :: _) _ _); refine wpList_store_rowTo rfl 28 (.tmp 9) _ rfl rfl w5.heap.size (rowB 32 h1) rfl rfl 28 _ (heap_alloc_new _ _) HZ.out (by rw [row_size, rowB_size]) (rowB_oneCell _ _) ?_; obtain ⟨gi, egi⟩ : ∃ gi, gi = w5.heap.size := ⟨_, rfl⟩; have HB6 := Lib.hid (show Below w1.heap.size w1 ((w5.alloc (.cells (row 32 fun _ => .int .u8 0) 28)).setRow w5.heap.size (rowB 32 h1)) from below_setRow (below_allocS HB5.out _) HB5.out.size _); have HG6 := Lib.hid (show ((w5.alloc (.cells (row 32 fun _ => .int .u8 0) 28)).setRow w5.heap.size (rowB 32 h1)).heap[gi]? = some (.cells (rowB 32 h1) 28 (0, 0)) from by rw [egi]; exact heap_setRow_at (heap_alloc_new _ _)); have HO7 := Lib.hid (World.ownsRow.kept HO6.out (show w5.grownBy ((w5.alloc (.cells (row 32 fun _ => .int .u8 0) 28)).setRow w5.heap.size (rowB 32 h1)) none from grown_setRow (grown_alloc (grown_refl _ _) _) (.inl (Nat.le_refl _)) _) (.inr nofun)); generalize (w5.alloc (.cells (row 32 fun _ => .int .u8 0) 28)).setRow w5.heap.size (rowB 32 h1) = w6 at *; rw [← egi]; clear egi)
        | (at_builtin; refine wpList_append_B rfl (.tmp 48) (.tmp 49) rfl w1.heap.size _ (padK key 92) ((List.range 32).map h1) rfl HO7.out (brow_num HG6.out) (by rw [padK_length]; simp) HB6.out.size ?_; intro v7 w7 hown7 hg7; have HO8 := Lib.hid hown7; have HB7 := Lib.hid (HB6.out.grown hg7 HB6.out.size (fun k hk => (World.ownsRow.lt HO7.out k hk).1)); clear hown7 hg7))
      refine (refSha_any _ (padK key 92 ++ (List.range 32).map h1) _ HO8.out.brow (by rw [List.length_append, padK_length]; simp) (HKA1.out.below HB7.out)).mono ?_
      rintro e w8 ⟨rfl, hb8⟩
      have HB8 := Lib.hid (below_keep HB7.out hb8)
      obtain ⟨h2, hh2⟩ : ∃ h2, h2 = sha (padK key 92 ++ (List.range 32).map h1) := ⟨_, rfl⟩
      rw [← hh2]
      have HH2 := Lib.hid hh2
      have HZ2 := Lib.hid (show (Tryd.prog.info? 28).map (·.size) = some (rowB 32 h2).size by rw [size32, rowB_size])
      have HR8 := Lib.hid ((HB8.out.block _ (Array.getElem?_eq_some_iff.1 HR1.out).1).trans HR1.out)
      clear hb8 hh2
      go_wp2_with ((with_reducible show wpList _ _ _ (⟨_, .store 28 _ _, _, _, _, _⟩ :: _) _ _); refine wpList_store_rowTo rfl 28 _ _ rfl rfl w.heap.size (rowB 32 h2) rfl rfl 28 _ HR8.out HZ2.out (by rw [row_size, rowB_size]) (rowB_oneCell _ _) ?_)
      refine bodyPost_ret (results_cell_row rfl _ _ w.heap.size 28 (rowB 32 h2) (0, 0) _ rfl (heap_setRow_at HR8.out) Tryd.underlying28 rfl HZ2.out) rfl ?_
      exact ⟨by rw [HH2.out, HH1.out], below_setRow (below_keep HB1.out HB8.out) (Nat.le_refl _) _⟩


set_option maxRecDepth 100000 in
set_option maxHeartbeats 2000000 in
theorem refMac_long (a a2 : Option Addr) (c c2 : Nat) (key m : List (BitVec 8)) (w : World) (hv : BRow w (.slice a key.length c) key) (hvb : BRow w (.slice a2 m.length c2) m) (hk : 64 < key.length) (hk2 : key.length ≤ 1000000000) (hm : m.length ≤ 999999000) (hka : KAt w) :
    Calls Tryd.prog 33 #[.slice a key.length c, .slice a2 m.length c2] w fun e w' => e = .returned (.agg (rowB 32 (sha (padK ((List.range 32).map (sha key)) 92 ++ (List.range 32).map (sha (padK ((List.range 32).map (sha key)) 54 ++ m)))))) ∧ Below w.heap.size w w' := by
  have hz1 : ((64 : Int) < (key.length : Int)) = True := eq_true (by omega)
  have hmk : ∀ w, (Instr.makeSlice 25 (.int .i64 64) (.int .i64 64)).run Tryd.prog w = .ok (.slice (some ⟨w.heap.size, 0, none⟩) 64 64) (w.alloc (.cells (rowB 64 fun _ => 0) 5)) := make_B 64 (by decide)
  have HKL := Lib.hid hk2
  have HM := Lib.hid hm
  have HB9 := Lib.hid (show Below w.heap.size w (w.alloc (.cells (row 32 fun _ => .int .u8 0) 28)) from below_allocS (Below.refl _ _) _)
  have HR9 := Lib.hid (show (w.alloc (.cells (row 32 fun _ => .int .u8 0) 28)).heap[w.heap.size]? = some (.cells (row 32 fun _ => .int .u8 0) 28 (0, 0)) from heap_alloc_new _ _)
  have HV9 := Lib.hid (hv.below HB9.out)
  have HVB9 := Lib.hid (hvb.below HB9.out)
  have HKA9 := Lib.hid (hka.below HB9.out)
  obtain ⟨hky, hhk⟩ : ∃ h, h = sha key := ⟨_, rfl⟩
  have HHK := Lib.hid hhk
  have HL := Lib.hid (show ((List.range 32).map hky).length ≤ 64 by simp)
  have HZK := Lib.hid (show (Tryd.prog.info? 28).map (·.size) = some (rowB 32 hky).size by rw [size32, rowB_size])
  rw [← hhk]
  clear hv hvb hk hm hk2 hhk hka
  go_enter Tryd.func33, Tryd.ntmps33
  go_wp2_with (with_reducible refine wpList_alloc_row rfl 28 rfl 32 _ info32 ?_; generalize w.alloc (.cells (row 32 fun _ => .int .u8 0) 28) = w9 at *)
  refine (refSha_any _ key _ HV9.out HKL.out HKA9.out).mono ?_
  rintro e w88 ⟨rfl, hb8⟩
  rw [← HHK.out]
  have HB88 := Lib.hid hb8
  clear hb8
  go_wp2_with (first
    | (with_reducible refine wpList_alloc_row rfl 28 rfl 32 _ info32 ?_)
    | ((with_reducible show wpList _ _ _ (⟨_, .store 28 _ _, _, _, _, _⟩ :: _) _ _); refine wpList_store_rowTo rfl 28 (.tmp 5) _ rfl rfl _ (rowB 32 hky) rfl rfl 28 _ (heap_alloc_new _ _) HZK.out (by rw [row_size, rowB_size]) (rowB_oneCell _ _) ?_; obtain ⟨gk, egk⟩ : ∃ gk, gk = w88.heap.size := ⟨_, rfl⟩; have HB7 := Lib.hid (show Below w9.heap.size w9 ((w88.alloc (.cells (row 32 fun _ => .int .u8 0) 28)).setRow w88.heap.size (rowB 32 hky)) from below_setRow (below_allocS HB88.out _) HB88.out.size _); have HK1 := Lib.hid (show BRow ((w88.alloc (.cells (row 32 fun _ => .int .u8 0) 28)).setRow w88.heap.size (rowB 32 hky)) (.slice (some ⟨gk, 0, none⟩) 32 32) ((List.range 32).map hky) from by rw [egk]; exact brow_num (heap_setRow_at (heap_alloc_new _ _))); generalize (w88.alloc (.cells (row 32 fun _ => .int .u8 0) 28)).setRow w88.heap.size (rowB 32 hky) = w1 at *; rw [← egk]; clear egk HB88; have HB1 := Lib.hid (below_keep HB9.out HB7.out); have HR1 := Lib.hid ((HB7.out.block _ (Array.getElem?_eq_some_iff.1 HR9.out).1).trans HR9.out); have HVB1 := Lib.hid (HVB9.out.below HB7.out); have HKA1 := Lib.hid (HKA9.out.below HB7.out); clear HB9 HR9 HV9 HVB9 HB7 HKA9; have HG1 := Lib.hid (show ((w1.alloc (.cells (rowB 64 fun _ => 0) 5)).alloc (.cells (rowB 64 fun _ => 0) 5)).heap[w1.heap.size]? = some (.cells (rowB 64 fun _ => 0) 5 (0, 0)) from heap_alloc2_old _ _ _); have HG2 := Lib.hid (show ((w1.alloc (.cells (rowB 64 fun _ => 0) 5)).alloc (.cells (rowB 64 fun _ => 0) 5)).heap[w1.heap.size + 1]? = some (.cells (rowB 64 fun _ => 0) 5 (0, 0)) from heap_alloc2_new _ _ _); have HB2 := Lib.hid (show Below w1.heap.size w1 ((w1.alloc (.cells (rowB 64 fun _ => 0) 5)).alloc (.cells (rowB 64 fun _ => 0) 5)) from below_allocS (below_allocS (Below.refl _ _) _) _))
    | (refine wpList_copy_key rfl (.tmp 18) (.tmp 19) rfl w1.heap.size ((List.range 32).map hky) 54 rfl (HK1.out.below HB2.out) HL.out HG1.out ?_; intro w2 hg2 hgr2; have HG3 := Lib.hid hg2; have HB3 := Lib.hid (HB2.out.grown hgr2 HB2.out.size (fun k hk => by cases hk; exact Nat.le_refl _)); have HG4 := Lib.hid ((hgr2.block _ (Array.getElem?_eq_some_iff.1 HG2.out).1 (by intro e; injection e with e; omega)).trans HG2.out); clear hg2 hgr2)
    | (refine wpList_copy_key rfl (.tmp 21) (.tmp 22) rfl (w1.heap.size + 1) ((List.range 32).map hky) 92 rfl (HK1.out.below HB3.out) HL.out HG4.out ?_; intro w3 hg3 hgr3; have HA3 := Lib.hid (show RMacAt w1 ((List.range 32).map hky) 0 w1.heap.size (w1.heap.size + 1) w3 from ⟨(hgr3.block _ (Array.getElem?_eq_some_iff.1 HG3.out).1 (by intro e; injection e with e; omega)).trans HG3.out, hg3, Nat.le_refl _, by omega, HB3.out.grown hgr3 HB3.out.size (fun k hk => by cases hk; omega)⟩); clear hg3 hgr3))
  clear hmk HG1 HG2 HB2 HG3 HB3 HG4
  go_loopw [8] (fun i wr => ∃ k : Nat, k ≤ 64 ∧ i = .int .i64 k ∧ RMacAt w1 ((List.range 32).map hky) k w1.heap.size (w1.heap.size + 1) wr) (fun i _ => 64 - (intOf i).toNat)
  case atStart => exact ⟨0, by omega, rfl, HA3.out⟩
  case round =>
    clear HA3
    obtain ⟨k, hk, rfl, hA⟩ := hrel
    have HA := Lib.hid hA
    clear hA
    by_cases hlt : k < 64
    · have hk0 : (0 : Int) ≤ (k : Int) := by omega
      have hk1 : (k : Int) < 64 := by omega
      have ci : wr.cell? ⟨w1.heap.size, k, none⟩ = some (.int .u8 (B8 (padT ((List.range 32).map hky) 54 k k))) := cell_rowB HA.out.hi hlt
      have fi : wr.frozen? ⟨w1.heap.size, k, none⟩ = false := frozen_of_row wr _ _ _ _ HA.out.hi
      have co : wr.cell? ⟨w1.heap.size + 1, k, none⟩ = some (.int .u8 (B8 (padT ((List.range 32).map hky) 92 k k))) := cell_rowB HA.out.ho hlt
      have fo : wr.frozen? ⟨w1.heap.size + 1, k, none⟩ = false := frozen_of_row wr _ _ _ _ HA.out.ho
      have HST := Lib.hid (padT_step ((List.range 32).map hky) 54 k)
      have HST2 := Lib.hid (padT_step ((List.range 32).map hky) 92 k)
      have hx : bits .xor .u8 (B8 (padT ((List.range 32).map hky) 54 k k)) 54 = B8 (padT ((List.range 32).map hky) 54 k k ^^^ 54) := B8_xor (padT ((List.range 32).map hky) 54 k k) 54
      have hy : bits .xor .u8 (B8 (padT ((List.range 32).map hky) 92 k k)) 92 = B8 (padT ((List.range 32).map hky) 92 k k ^^^ 92) := B8_xor (padT ((List.range 32).map hky) 92 k k) 92
      generalize padT ((List.range 32).map hky) 54 k k = p at *
      generalize padT ((List.range 32).map hky) 92 k k = q at *
      generalize p ^^^ 54 = p1 at *
      generalize q ^^^ 92 = q1 at *
      go_wp2_with fail
      go_roundw
      case rel =>
        refine ⟨k + 1, by omega, by go_num, ?_, ?_, Nat.le_refl _, by omega, (HA.out.hb.setCell (Nat.le_refl _) _).setCell (by simp) _⟩
        · refine (heap_setCell_other _ _ _ _ (by simp)).trans ?_
          rw [← HST.out]
          exact heap_set_rowB _ HA.out.hi hlt
        · rw [← HST2.out]
          exact heap_set_rowB _ ((heap_setCell_other _ _ _ _ (by simp)).trans HA.out.ho) hlt
      case measure => simp [intOf]; omega
    · obtain rfl : k = 64 := by omega
      rw [show ((64 : Nat) : Int) = 64 from rfl]
      have HI := Lib.hid (show OwnB wr w1.heap.size (.slice (some ⟨w1.heap.size, 0, none⟩) 64 64) (padK ((List.range 32).map hky) 54) from by rw [← padT_full]; exact own_row HA.out.hi (Nat.le_refl _) (by decide))
      have HO := Lib.hid (show OwnB wr w1.heap.size (.slice (some ⟨w1.heap.size + 1, 0, none⟩) 64 64) (padK ((List.range 32).map hky) 92) from by rw [← padT_full]; exact own_row HA.out.ho (by omega) (by decide))
      have hsz1 := HA.out.hb.size
      go_wp2_with (at_builtin; (refine wpList_append_B rfl (.tmp 44) (.tmp 45) rfl w1.heap.size _ (padK ((List.range 32).map hky) 54) m rfl HI.out (HVB1.out.below HA.out.hb) (by rw [padK_length]; have := HM.out; omega) hsz1 ?_); (intro v4 w4 hown4 hg4; have HO4 := Lib.hid hown4; have HB4 := Lib.hid (HA.out.hb.grown hg4 hsz1 (fun k hk => by cases hk; exact Nat.le_refl _)); have HO5 := Lib.hid (World.ownsRow.kept HO.out hg4 (.inr (show (some (w1.heap.size + 1) : Option Nat) ≠ some w1.heap.size from by intro e; injection e with e; omega))); clear hown4 hg4))
      refine (refSha_any _ (padK ((List.range 32).map hky) 54 ++ m) _ HO4.out.brow (by rw [List.length_append, padK_length]; have := HM.out; omega) (HKA1.out.below HB4.out)).mono ?_
      rintro e w5 ⟨rfl, hb5⟩
      have HB5 := Lib.hid (below_keep HB4.out hb5)
      have HO6 := Lib.hid (World.ownsRow.kept HO5.out (grown_of_below (r := none) hb5) (.inr nofun))
      obtain ⟨h1, hh1⟩ : ∃ h1, h1 = sha (padK ((List.range 32).map hky) 54 ++ m) := ⟨_, rfl⟩
      rw [← hh1]
      have HH1 := Lib.hid hh1
      have HZ := Lib.hid (show (Tryd.prog.info? 28).map (·.size) = some (rowB 32 h1).size by rw [size32, rowB_size])
      clear hb5 hh1 HI HO HO4 HB4 HO5 hsz1
      go_wp2_with (first
        | (with_reducible refine wpList_alloc_row rfl 28 rfl 32 _ info32 ?_)
        | ((with_reducible show wpList _ _ _ (⟨_, .store 28 _ _, _, _, _, _⟩ :: _) _ _); refine wpList_store_rowTo rfl 28 (.tmp 9) _ rfl rfl w5.heap.size (rowB 32 h1) rfl rfl 28 _ (heap_alloc_new _ _) HZ.out (by rw [row_size, rowB_size]) (rowB_oneCell _ _) ?_; obtain ⟨gi, egi⟩ : ∃ gi, gi = w5.heap.size := ⟨_, rfl⟩; have HB6 := Lib.hid (show Below w1.heap.size w1 ((w5.alloc (.cells (row 32 fun _ => .int .u8 0) 28)).setRow w5.heap.size (rowB 32 h1)) from below_setRow (below_allocS HB5.out _) HB5.out.size _); have HG6 := Lib.hid (show ((w5.alloc (.cells (row 32 fun _ => .int .u8 0) 28)).setRow w5.heap.size (rowB 32 h1)).heap[gi]? = some (.cells (rowB 32 h1) 28 (0, 0)) from by rw [egi]; exact heap_setRow_at (heap_alloc_new _ _)); have HO7 := Lib.hid (World.ownsRow.kept HO6.out (show w5.grownBy ((w5.alloc (.cells (row 32 fun _ => .int .u8 0) 28)).setRow w5.heap.size (rowB 32 h1)) none from grown_setRow (grown_alloc (grown_refl _ _) _) (.inl (Nat.le_refl _)) _) (.inr nofun)); generalize (w5.alloc (.cells (row 32 fun _ => .int .u8 0) 28)).setRow w5.heap.size (rowB 32 h1) = w6 at *; rw [← egi]; clear egi)
        | (at_builtin; refine wpList_append_B rfl (.tmp 48) (.tmp 49) rfl w1.heap.size _ (padK ((List.range 32).map hky) 92) ((List.range 32).map h1) rfl HO7.out (brow_num HG6.out) (by rw [padK_length]; simp) HB6.out.size ?_; intro v7 w7 hown7 hg7; have HO8 := Lib.hid hown7; have HB7 := Lib.hid (HB6.out.grown hg7 HB6.out.size (fun k hk => (World.ownsRow.lt HO7.out k hk).1)); clear hown7 hg7))
      refine (refSha_any _ (padK ((List.range 32).map hky) 92 ++ (List.range 32).map h1) _ HO8.out.brow (by rw [List.length_append, padK_length]; simp) (HKA1.out.below HB7.out)).mono ?_
      rintro e w8 ⟨rfl, hb8⟩
      have HB8 := Lib.hid (below_keep HB7.out hb8)
      obtain ⟨h2, hh2⟩ : ∃ h2, h2 = sha (padK ((List.range 32).map hky) 92 ++ (List.range 32).map h1) := ⟨_, rfl⟩
      rw [← hh2]
      have HH2 := Lib.hid hh2
      have HZ2 := Lib.hid (show (Tryd.prog.info? 28).map (·.size) = some (rowB 32 h2).size by rw [size32, rowB_size])
      have HR8 := Lib.hid ((HB8.out.block _ (Array.getElem?_eq_some_iff.1 HR1.out).1).trans HR1.out)
      clear hb8 hh2
      go_wp2_with ((with_reducible show wpList _ _ _ (⟨_, .store 28 _ _, _, _, _, _⟩ :: _) _ _); refine wpList_store_rowTo rfl 28 _ _ rfl rfl w.heap.size (rowB 32 h2) rfl rfl 28 _ HR8.out HZ2.out (by rw [row_size, rowB_size]) (rowB_oneCell _ _) ?_)
      refine bodyPost_ret (results_cell_row rfl _ _ w.heap.size 28 (rowB 32 h2) (0, 0) _ rfl (heap_setRow_at HR8.out) Tryd.underlying28 rfl HZ2.out) rfl ?_
      exact ⟨by rw [HH2.out, HH1.out], below_setRow (below_keep HB1.out HB8.out) (Nat.le_refl _) _⟩

theorem refMac_any (v vb : Value) (key m : List (BitVec 8)) (w : World) (hv : BRow w v key) (hvb : BRow w vb m) (hk : key.length ≤ 1000000000) (hm : m.length ≤ 999999000) (hka : KAt w) :
    Calls Tryd.prog 33 #[v, vb] w fun e w' => e = .returned (.agg (rowB 32 (macS key m))) ∧ Below w.heap.size w w' := by
  obtain ⟨a, c, rfl⟩ := hv.shape
  obtain ⟨a2, c2, rfl⟩ := hvb.shape
  unfold macS
  by_cases h : key.length ≤ 64
  · rw [keyS_short h]
    exact refMac_from a a2 c c2 key m w hv hvb h hm hka
  · rw [keyS_long (by omega)]
    exact refMac_long a a2 c c2 key m w hv hvb (by omega) hk hm hka

end Go.Proofs.YtnnllficjljjkaaDoor
