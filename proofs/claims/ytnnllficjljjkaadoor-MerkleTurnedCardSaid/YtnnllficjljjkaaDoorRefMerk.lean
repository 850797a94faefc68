/-
  The walks of the document's own half, Root and Path of a tree.
-/
import Derived.Test.YtnnllficjljjkaaDoorMerkA
import Derived.Test.YtnnllficjljjkaaDoorRefMac
namespace Go.Proofs.YtnnllficjljjkaaDoor
open Go.RowKit
set_option linter.unusedVariables false
set_option linter.unusedSimpArgs false

/-- A slice literal of one byte, as a row of the call's own. -/
theorem wp_build_b_own {o : Oper} {a : Act} {w : World} {K : Act → World → Prop} {Q : Exit → Act → World → Prop} (x : Operand) (ho : o.op = .buildSlice 25 1 #[(0, x)])
    (b : BitVec 8) (hx : a.eval x = .int .u8 (B8 b)) (base : Nat) (hb : base ≤ w.heap.size)
    (h : ∀ g w', OwnB w' base (.slice (some ⟨g, 0, none⟩) 1 1) [b] → w.grownBy w' none → K (a.put o.dst (.slice (some ⟨g, 0, none⟩) 1 1)) w') : o.wp Tryd.prog a w K Q := by
  obtain ⟨i0, hi0, hz0, hz1, hz2⟩ := info_parts info_u8
  refine wp_buildSlice 25 5 1 #[(0, x)] ho #[.int .u8 (B8 b)] i0 _ Tryd.underlying25 hi0 hz0 (by rw [hz1]; decide) (by rw [hz1]; decide) ?_ (h _ _ ⟨rfl, .inr ⟨w.heap.size, 1, #[.int .u8 (B8 b)], rfl, hb, heap_alloc_new w _, Nat.le_refl _, by decide, rfl, rfl⟩⟩ (grown_alloc (grown_refl _ _) _))
  rw [hz1]
  have e : (Array.map (fun (y : Nat × Operand) => (y.1, a.eval y.2)) #[(0, x)]).toList = [(0, Value.int .u8 (B8 b))] := by simp [hx]
  rw [e]
  have e1 : Array.range 1 = #[0] := rfl
  simp [Instr.fill, Value.cells, e1]

set_option maxRecDepth 100000 in
set_option maxHeartbeats 1000000 in
theorem half_any (n : Nat) (w : World) (h2 : 2 ≤ n) (hn : n ≤ 1000000000) :
    Calls Tryd.prog 60 #[.int .i64 (n : Int)] w fun e w' => e = .returned (.int .i64 (cutN n : Int)) ∧ w = w' := by
  go_enter Tryd.func60, Tryd.ntmps60
  go_wp2
  go_loopw [3] (fun i wr => ∃ j k : Nat, k = 2 ^ j ∧ k < n ∧ i = .int .i64 k ∧ wr = w) (fun i _ => n - (intOf i).toNat)
  case atStart => exact ⟨0, 1, rfl, by omega, rfl, rfl⟩
  case round =>
    obtain ⟨j, k, hj, hk, rfl, rfl⟩ := hrel
    have hpos : 0 < k := by rw [hj]; exact Nat.pow_pos (by decide)
    have HJ := Lib.hid hj
    clear hj
    have hk0 : (0 : Int) < (k : Int) := by omega
    have hk1 : (k : Int) < (n : Int) := by omega
    have hn9 : (n : Int) ≤ 1000000000 := by omega
    by_cases hlt : 2 * k < n
    · have hlt1 : 2 * (k : Int) < (n : Int) := by omega
      go_wp2_with fail
      go_roundw
      case rel => exact ⟨j + 1, 2 * k, by rw [HJ.out, Nat.pow_succ]; omega, by omega, by first | (congr 1; done) | (congr 1; omega), trivial⟩
      case measure => simp [intOf]; omega
    · have hlt1 : ¬ 2 * (k : Int) < (n : Int) := by omega
      have hc : cutN n = k := by rw [HJ.out]; exact cutN_of (by rw [← HJ.out]; exact hk) (by rw [Nat.pow_succ, ← HJ.out]; omega)
      have HC := Lib.hid hc
      clear hc
      go_wp2_with fail
      go_ret
      exact ⟨by rw [HC.out]; rfl, rfl⟩


set_option maxRecDepth 100000 in
set_option maxHeartbeats 2000000 in
theorem refRoot_any : ∀ (N : Nat) (l : List (List (BitVec 8))) (A : Option Addr) (c : Nat) (w : World), N = l.length → BRows w (.slice A N c) l → N ≤ c → N ≤ 100000000 → l.flatten.length ≤ 99999900 → KAt w →
    Calls Tryd.prog 44 #[.slice A N c] w fun e w' => e = .returned (.agg (rowB 32 (rootS l))) ∧ Below w.heap.size w w' := by
  intro N
  induction N using Nat.strongRecOn with
  | _ N ih =>
    intro l A c w hN hv hc hl hf hka
    obtain ⟨h, hh⟩ : ∃ h, h = rootS l := ⟨_, rfl⟩
    rw [← hh]
    have HH := Lib.hid hh
    have HZ := Lib.hid (show (Tryd.prog.info? 28).map (·.size) = some (rowB 32 h).size by rw [size32, rowB_size])
    have HB1 := Lib.hid (show Below w.heap.size w (w.alloc (.cells (row 32 fun _ => .int .u8 0) 28)) from below_allocS (Below.refl _ _) _)
    have HR1 := Lib.hid (show (w.alloc (.cells (row 32 fun _ => .int .u8 0) 28)).heap[w.heap.size]? = some (.cells (row 32 fun _ => .int .u8 0) 28 (0, 0)) from heap_alloc_new _ _)
    have HV1 := Lib.hid (hv.below HB1.out)
    have HKA := Lib.hid (hka.below HB1.out)
    have HN := Lib.hid hN
    have HC := Lib.hid hc
    have HL := Lib.hid hl
    have HF := Lib.hid hf
    have IH := Lib.hid ih
    clear hv hc hf hh ih hN hka
    by_cases h0 : N = 0
    · subst h0
      have hs := Lib.hid (show ∀ w, KAt w → Calls Tryd.prog 24 #[.slice none 0 0] w fun e w' => e = .returned (.agg (rowB 32 h)) ∧ Below w.heap.size w w' from fun w hk => by
        have := refSha_any (.slice none 0 0) [] w ⟨none, 0, rfl, fun _ => rfl, fun h => absurd h (by simp)⟩ (by simp) hk
        rw [HH.out, show l = [] from List.eq_nil_of_length_eq_zero HN.out.symm, rootS_nil]
        exact this)
      go_enter Tryd.func44, Tryd.ntmps44
      go_wp2_with (first
        | (with_reducible refine wpList_alloc_row rfl 28 rfl 32 _ info32 ?_; generalize w.alloc (.cells (row 32 fun _ => .int .u8 0) 28) = w1 at *)
        | (go_at_call 24; refine (hs.out _ HKA.out).mono ?_; rintro e w2 ⟨rfl, hb2⟩; have HB2 := Lib.hid (below_keep HB1.out hb2); have HR2 := Lib.hid ((hb2.block _ (Array.getElem?_eq_some_iff.1 HR1.out).1).trans HR1.out))
        | ((with_reducible show wpList _ _ _ (⟨_, .store 28 _ _, _, _, _, _⟩ :: _) _ _); refine wpList_store_rowTo rfl 28 _ _ rfl rfl w.heap.size (rowB 32 h) rfl rfl 28 _ HR2.out HZ.out (by rw [row_size, rowB_size]) (rowB_oneCell _ _) ?_))
      refine bodyPost_ret (results_cell_row rfl _ _ w.heap.size 28 (rowB 32 h) (0, 0) _ rfl (heap_setRow_at HR2.out) Tryd.underlying28 rfl HZ.out) rfl ?_
      exact ⟨rfl, below_setRow HB2.out (Nat.le_refl _) _⟩
    · by_cases h1 : N = 1
      · subst h1
        obtain ⟨m, hm⟩ : ∃ m, l = [m] := by
          match l, HN.out with
          | [x], _ => exact ⟨x, rfl⟩
        subst hm
        obtain ⟨b, off, a1, c1, rfl, hb, hcell, hrow⟩ := HV1.out.at (i := 0) (by simp)
        simp only [List.getElem_cons_zero, Nat.add_zero] at hcell hrow
        have hlen : m.length ≤ 99999900 := by have := HF.out; simp at this; omega
        have hroot : h = leafS m := by rw [HH.out]; exact rootS_one _
        have hs := Lib.hid (show ∀ v w, BRow w v (0 :: m) → KAt w → Calls Tryd.prog 24 #[v] w fun e w' => e = .returned (.agg (rowB 32 h)) ∧ Below w.heap.size w w' from fun v w hr hk => by
          rw [hroot]; exact refSha_any v (0 :: m) w hr (by simp; omega) hk)
        have HROW := Lib.hid hrow
        have HLEN := Lib.hid hlen
        clear hlen hroot hrow
        go_enter Tryd.func44, Tryd.ntmps44
        go_wp2_with (first
          | ((with_reducible refine wpList_alloc_row rfl 28 rfl 32 _ info32 ?_); generalize w.alloc (.cells (row 32 fun _ => .int .u8 0) 28) = w1 at *; have HBX := Lib.hid (show Below w1.heap.size w1 (w1.alloc (.cells #[.int .u8 0] 5)) from below_allocS (Below.refl _ _) _); have HOX := Lib.hid (show OwnB (w1.alloc (.cells #[.int .u8 0] 5)) w1.heap.size (.slice (some ⟨w1.heap.size, 0, none⟩) 1 1) [0] from ⟨rfl, .inr ⟨w1.heap.size, 1, #[.int .u8 0], rfl, Nat.le_refl _, heap_alloc_new w1 _, Nat.le_refl _, by decide, rfl, rfl⟩⟩); have hcell2 : (w1.alloc (.cells #[.int .u8 0] 5)).cell? ⟨b, off, none⟩ = some (.slice a1 m.length c1) := (HBX.out.cell (p := ⟨b, off, none⟩) hb).trans hcell)
          | (at_builtin; refine wpList_append_B rfl (.tmp 13) (.tmp 16) rfl w1.heap.size _ [0] m rfl HOX.out (HROW.out.below HBX.out) (by have := HLEN.out; simp; omega) HBX.out.size ?_; intro v3 w3 hown3 hg3; have HO3 := Lib.hid hown3; have HB3 := Lib.hid (HBX.out.grown hg3 HBX.out.size (fun k hk => (World.ownsRow.lt HOX.out k hk).1)); clear hown3 hg3)
          | (go_at_call 24; refine (hs.out _ _ HO3.out.brow (HKA.out.below HB3.out)).mono ?_; rintro e w2 ⟨rfl, hb2⟩; have HB2 := Lib.hid (below_keep HB1.out (below_keep HB3.out hb2)); have HR2 := Lib.hid (((below_keep HB3.out hb2).block _ (Array.getElem?_eq_some_iff.1 HR1.out).1).trans HR1.out))
          | ((with_reducible show wpList _ _ _ (⟨_, .store 28 _ _, _, _, _, _⟩ :: _) _ _); refine wpList_store_rowTo rfl 28 _ _ rfl rfl w.heap.size (rowB 32 h) rfl rfl 28 _ HR2.out HZ.out (by rw [row_size, rowB_size]) (rowB_oneCell _ _) ?_))
        refine bodyPost_ret (results_cell_row rfl _ _ w.heap.size 28 (rowB 32 h) (0, 0) _ rfl (heap_setRow_at HR2.out) Tryd.underlying28 rfl HZ.out) rfl ?_
        exact ⟨rfl, below_setRow HB2.out (Nat.le_refl _) _⟩
      · have h2 : 2 ≤ N := by omega
        have hk1 := cutN_lt h2
        have hk0 := cutN_pos N
        have hroot : h = nodeS (rootS (l.take (cutN N))) (rootS (l.drop (cutN N))) := by rw [HH.out, HN.out]; exact rootS_two (by rw [← HN.out]; exact h2)
        have HCU := Lib.hid (show ∀ w, Calls Tryd.prog 60 #[.int .i64 (N : Int)] w fun e w' => e = .returned (.int .i64 (cutN N : Int)) ∧ w = w' from fun w => half_any N w h2 (by omega))
        generalize cutN N = k at *
        obtain ⟨f1, hf1⟩ : ∃ f, f = rootS (l.take k) := ⟨_, rfl⟩
        obtain ⟨f2, hf2⟩ : ∃ f, f = rootS (l.drop k) := ⟨_, rfl⟩
        rw [← hf1, ← hf2] at hroot
        have hft := flat_take l k
        have HX1 := Lib.hid (show ∀ w, BRows w (.slice A N c) l → KAt w → Calls Tryd.prog 44 #[.slice A k c] w fun e w' => e = .returned (.agg (rowB 32 f1)) ∧ Below w.heap.size w w' from fun w hv hka => by
          rw [hf1]; exact IH.out k hk1 (l.take k) A c w (by rw [List.length_take, ← HN.out]; omega) (hv.hi (by rw [← HN.out]; omega) (by rw [← HN.out]; exact HC.out)) (by have := HC.out; omega) (by omega) (by have := HF.out; omega) hka)
        have HX2 := Lib.hid (show ∀ w, BRows w (.slice A N c) l → KAt w → Calls Tryd.prog 44 #[.slice (cutA A c k) (N - k) (c - k)] w fun e w' => e = .returned (.agg (rowB 32 f2)) ∧ Below w.heap.size w w' from fun w hv hka => by
          rw [hf2]; exact IH.out (N - k) (by omega) (l.drop k) (cutA A c k) (c - k) w (by rw [List.length_drop, ← HN.out]) (hv.lo (by rw [← HN.out]; omega) (by rw [← HN.out]; exact HC.out)) (by have := HC.out; omega) (by omega) (by have := HF.out; omega) hka)
        have HX3 := Lib.hid (show ∀ v w, BRow w v ([1] ++ (List.range 32).map f1 ++ (List.range 32).map f2) → KAt w → Calls Tryd.prog 24 #[v] w fun e w' => e = .returned (.agg (rowB 32 h)) ∧ Below w.heap.size w w' from fun v w hr hk => by
          have := refSha_any v _ w hr (by simp) hk
          rw [hroot]
          have e : ([1] ++ (List.range 32).map f1 ++ (List.range 32).map f2 : List (BitVec 8)) = 1 :: (num32 f1 ++ num32 f2) := by simp [num32]
          rw [e] at this
          exact this)
        have hs1 := slice_hiS (A := A) (n := N) (c := c) (k := k) (by have := HC.out; omega)
        have hs2 := slice_loS (A := A) (n := N) (c := c) (i := k) (by omega)
        have HZ1 := Lib.hid (show (Tryd.prog.info? 28).map (·.size) = some (rowB 32 f1).size by rw [size32, rowB_size])
        have HZ2 := Lib.hid (show (Tryd.prog.info? 28).map (·.size) = some (rowB 32 f2).size by rw [size32, rowB_size])
        clear hf1 hf2 hroot hft HH
        have HA1 := Lib.hid (show ∀ w1 : World, w1 = w.alloc (.cells (row 32 fun _ => .int .u8 0) 28) → w.heap.size < w1.heap.size from fun w1 e => by rw [e]; simp)
        go_enter Tryd.func44, Tryd.ntmps44
        go_wp2_with (first
          | ((with_reducible show wpList _ _ _ (⟨some 2, .alloc _, _, _, _, _⟩ :: _) _ _); with_reducible refine wpList_alloc_row rfl 28 rfl 32 _ info32 ?_; generalize w.alloc (.cells (row 32 fun _ => .int .u8 0) 28) = w1 at *)
          | (go_at_call 60; refine (HCU.out _).mono ?_; rintro e w2 ⟨rfl, rfl⟩)
          | (go_at_call 44; first
            | ((with_reducible refine (HX1.out w1 HV1.out HKA.out).mono ?_); rintro e w3 ⟨rfl, hb3⟩; have HB3 := Lib.hid hb3; clear hb3)
            | ((with_reducible refine (HX2.out w4 (HV1.out.below HB4.out) (HKA.out.below HB4.out)).mono ?_); rintro e w5 ⟨rfl, hb5⟩; have HB5 := Lib.hid (below_keep HB4.out hb5); have HG5 := Lib.hid ((hb5.block _ (Array.getElem?_eq_some_iff.1 HG4.out).1).trans HG4.out); clear hb5))
          | (with_reducible refine wpList_alloc_row rfl 28 rfl 32 _ info32 ?_)
          | ((with_reducible show wpList _ _ _ (⟨_, .store 28 (.tmp 4) _, _, _, _, _⟩ :: _) _ _); refine wpList_store_rowTo rfl 28 (.tmp 4) _ rfl rfl w3.heap.size (rowB 32 f1) rfl rfl 28 _ (heap_alloc_new _ _) HZ1.out (by rw [row_size, rowB_size]) (rowB_oneCell _ _) ?_; obtain ⟨ga, ega⟩ : ∃ g, g = w3.heap.size := ⟨_, rfl⟩; have HB4 := Lib.hid (show Below w1.heap.size w1 ((w3.alloc (.cells (row 32 fun _ => .int .u8 0) 28)).setRow w3.heap.size (rowB 32 f1)) from below_setRow (below_allocS HB3.out _) HB3.out.size _); have HG4 := Lib.hid (show ((w3.alloc (.cells (row 32 fun _ => .int .u8 0) 28)).setRow w3.heap.size (rowB 32 f1)).heap[ga]? = some (.cells (rowB 32 f1) 28 (0, 0)) from by rw [ega]; exact heap_setRow_at (heap_alloc_new _ _)); generalize (w3.alloc (.cells (row 32 fun _ => .int .u8 0) 28)).setRow w3.heap.size (rowB 32 f1) = w4 at *; rw [← ega]; clear ega)
          | ((with_reducible show wpList _ _ _ (⟨_, .store 28 (.tmp 5) _, _, _, _, _⟩ :: _) _ _); refine wpList_store_rowTo rfl 28 (.tmp 5) _ rfl rfl w5.heap.size (rowB 32 f2) rfl rfl 28 _ (heap_alloc_new _ _) HZ2.out (by rw [row_size, rowB_size]) (rowB_oneCell _ _) ?_; obtain ⟨gb, egb⟩ : ∃ g, g = w5.heap.size := ⟨_, rfl⟩; have HB6 := Lib.hid (show Below w1.heap.size w1 ((w5.alloc (.cells (row 32 fun _ => .int .u8 0) 28)).setRow w5.heap.size (rowB 32 f2)) from below_setRow (below_allocS HB5.out _) HB5.out.size _); have HA6 := Lib.hid (show ((w5.alloc (.cells (row 32 fun _ => .int .u8 0) 28)).setRow w5.heap.size (rowB 32 f2)).heap[ga]? = some (.cells (rowB 32 f1) 28 (0, 0)) from (heap_setRow_far (Nat.ne_of_lt (Array.getElem?_eq_some_iff.1 HG5.out).1)).trans ((Below.heap_alloc _ _ _ (Array.getElem?_eq_some_iff.1 HG5.out).1).trans HG5.out)); have HG6 := Lib.hid (show ((w5.alloc (.cells (row 32 fun _ => .int .u8 0) 28)).setRow w5.heap.size (rowB 32 f2)).heap[gb]? = some (.cells (rowB 32 f2) 28 (0, 0)) from by rw [egb]; exact heap_setRow_at (heap_alloc_new _ _)); generalize (w5.alloc (.cells (row 32 fun _ => .int .u8 0) 28)).setRow w5.heap.size (rowB 32 f2) = w6 at *; rw [← egb]; clear egb))
        clear hs1 hs2
        have hlt1 := (Array.getElem?_eq_some_iff.1 HR1.out).1
        have HR6 := Lib.hid ((HB6.out.block _ hlt1).trans HR1.out)
        have hlt6 := (Array.getElem?_eq_some_iff.1 HR6.out).1
        have HK6 := Lib.hid (HKA.out.below HB6.out)
        refine wp_region_plan (S := fun w' => w6.grownBy w' (some w.heap.size)) [1, 3, 0, 2, 4, 5, 6] [true, true, false, false, false, false, false] (by kernel_rfl) (by kernel_rfl) (grown_drew (grown_refl _ _)) (fun _ => ?_)
        simp only [List.filterMap_cons, List.filterMap_nil, List.getElem?_toArray, List.getElem?_cons_zero, List.getElem?_cons_succ]
        refine seqH_take (v := ?_) (Or.inl ⟨by rfl, ?_⟩) ?_
        rotate_left
        · (intro w hSw; go_simp; first | done | with_reducible rfl)
        try simp only [Act.put, List.setIfInBounds_toArray, List.set_cons_zero, List.set_cons_succ]
        refine seqH_take (v := ?_) (Or.inl ⟨by rfl, ?_⟩) ?_
        rotate_left
        · (intro w hSw; go_simp; first | done | with_reducible rfl)
        try simp only [Act.put, List.setIfInBounds_toArray, List.set_cons_zero, List.set_cons_succ]
        refine seqH_go (fun K hK => ?_)
        rw [if_pos (by rfl)]
        refine wp_build_b_own (.const (.int .u8 1)) rfl 1 rfl w6.heap.size (Nat.le_refl _) ?_; intro g7 w7 hown7 hg7; have hB7 : Below w6.heap.size w6 w7 := (Below.refl _ _).drew.grown hg7 (Nat.le_refl _) (fun k hk => by cases hk)
        refine hK.out _ _ (grown_of_below hB7) (fun _ => ?_)
        clear hK K
        try simp only [Act.put, List.setIfInBounds_toArray, List.set_cons_zero, List.set_cons_succ]
        refine seqH_go (fun K hK => ?_)
        rw [if_pos (by rfl)]
        refine wp_append_B (.tmp 30) (.tmp 31) rfl w6.heap.size _ [1] ((List.range 32).map f1) rfl hown7 (brow_num ((hB7.block _ (Array.getElem?_eq_some_iff.1 HA6.out).1).trans HA6.out)) (by simp) hB7.size ?_; intro v8 w8 hown8 hg8; have hB8 : Below w6.heap.size w6 w8 := hB7.grown hg8 hB7.size (fun k hk => (World.ownsRow.lt hown7 k hk).1)
        refine hK.out _ _ (grown_of_below hB8) (fun _ => ?_)
        clear hK K
        try simp only [Act.put, List.setIfInBounds_toArray, List.set_cons_zero, List.set_cons_succ]
        refine seqH_go (fun K hK => ?_)
        rw [if_pos (by rfl)]
        refine wp_append_B (.tmp 32) (.tmp 33) rfl w6.heap.size _ ([1] ++ (List.range 32).map f1) ((List.range 32).map f2) rfl hown8 (brow_num ((hB8.block _ (Array.getElem?_eq_some_iff.1 HG6.out).1).trans HG6.out)) (by simp) hB8.size ?_; intro v9 w9 hown9 hg9; have hB9 : Below w6.heap.size w6 w9 := hB8.grown hg9 hB8.size (fun k hk => (World.ownsRow.lt hown8 k hk).1)
        refine hK.out _ _ (grown_of_below hB9) (fun _ => ?_)
        clear hK K
        try simp only [Act.put, List.setIfInBounds_toArray, List.set_cons_zero, List.set_cons_succ]
        refine seqH_go (fun K hK => ?_)
        rw [if_pos (by rfl)]
        go_simp; refine (HX3.out _ _ hown9.brow (HK6.out.below hB9)).mono ?_; rintro e w10 ⟨rfl, hb10⟩; dsimp only; have hB10 := below_keep hB9 hb10
        refine hK.out _ _ (grown_of_below hB10) (fun _ => ?_)
        clear hK K
        try simp only [Act.put, List.setIfInBounds_toArray, List.set_cons_zero, List.set_cons_succ]
        refine seqH_go (fun K hK => ?_)
        rw [if_pos (by rfl)]
        refine wpm_store (.tmp 2) (.tmp 35) rfl w.heap.size h rfl rfl 28 _ ((hB10.block _ hlt6).trans HR6.out) ?_; intro w11 h11 hg11
        refine hK.out _ _ (grown_trans (grown_of_below hB10) hg11) (fun _ => ?_)
        clear hK K
        try simp only [Act.put, List.setIfInBounds_toArray, List.set_cons_zero, List.set_cons_succ]
        refine seqH_nil (NoPanic.normal ?_)
        have HB11 := Lib.hid ((below_keep HB1.out HB6.out).grown (grown_trans (grown_of_below hB10) hg11) (below_keep HB1.out HB6.out).size (fun k hk => by cases hk; exact Nat.le_refl _))
        have HG11 := Lib.hid h11
        clear hB7 hB8 hB9 hB10 hg7 hg8 hg9 hg11 h11 hb10 hown7 hown8 hown9
        go_wp2
        refine bodyPost_ret (results_cell_row rfl _ _ w.heap.size 28 (rowB 32 h) (0, 0) _ rfl HG11.out Tryd.underlying28 rfl HZ.out) rfl ?_
        exact ⟨rfl, HB11.out⟩

end Go.Proofs.YtnnllficjljjkaaDoor
