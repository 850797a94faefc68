/-
  The walk of the law MacMade.
-/
import Derived.Test.YtnnllficjljjkaaAlive7
import Derived.Great.BuildSlice
namespace Go.Proofs.Ytnnllficjljjkaa
open Go.RowKit
set_option linter.unusedVariables false
set_option linter.unusedSimpArgs false

structure RMacAt (w : World) (key : List (BitVec 8)) (k : Nat) (gi go : Nat) (wr : World) : Prop where
  hi : wr.heap[gi]? = some (.cells (rowB 64 (padT key 54 k)) 5 (0, 0))
  ho : wr.heap[go]? = some (.cells (rowB 64 (padT key 92 k)) 5 (0, 0))
  l1 : w.heap.size ≤ gi
  l2 : gi < go
  hb : Below w.heap.size w wr

theorem keepCell {u u' : World} {g : Nat} {o : Obj} {b : Option Nat} (h : u.heap[g]? = some o) (hg : u.grownBy u' b) (hne : some g ≠ b) : u'.heap[g]? = some o :=
  (hg.block g (Array.getElem?_eq_some_iff.1 h).1 hne).trans h
theorem wp_region_tree {P : Program} {ops : Array Oper} {Q : Exit → Act → World → Prop} {S : World → Prop} {id : Nat} {a : Act} {w : World} (n : Nat) (hm : P.follows .mixedOrders = true) (hn : ops.size = n) (hS : S w.drew)
    (h : S w.drew → wpAnyH P .any ops (NoPanic Q) S n (Array.replicate n false) a w.drew) : (Code.region id ops true).wp P Q a w := by
  subst hn
  exact wp_region_noPanic (wp_region_held_drew hm hS h)
section
variable {o : Oper} {a : Act} {w : World} {K : Act → World → Prop} {Q : Exit → Act → World → Prop}
theorem wp_build_s_to (x : Operand) (ho : o.op = .buildSlice 30 1 #[(0, x)]) (A : Option Addr) (n c : Nat) (hx : a.eval x = .slice A n c)
    (h : ∀ g w', w'.heap[g]? = some (.cells #[.slice A n c] 22 (0, 0)) → w.grownBy w' none → K (a.put o.dst (.slice (some ⟨g, 0, none⟩) 1 1)) w') : o.wp Try.prog a w K Q := by
  obtain ⟨i0, hi0, hz0, hz1, hz2⟩ := info_parts info_sl
  refine wp_buildSlice 30 22 1 #[(0, x)] ho #[.slice A n c] i0 _ Try.underlying30 hi0 hz0 (by rw [hz1]; decide) (by rw [hz1]; decide) ?_ (h _ _ (heap_alloc_new w _) (grown_alloc (grown_refl _ _) _))
  rw [hz1]
  have e : (Array.map (fun (y : Nat × Operand) => (y.1, a.eval y.2)) #[(0, x)]).toList = [(0, Value.slice A n c)] := by simp [hx]
  rw [e]
  have e1 : Array.range 1 = #[0] := rfl
  simp [Instr.fill, Value.cells, e1]
theorem wp_build_s2_to (x y : Operand) (ho : o.op = .buildSlice 30 2 #[(0, x), (1, y)]) (A : Option Addr) (n c : Nat) (A2 : Option Addr) (n2 c2 : Nat) (hx : a.eval x = .slice A n c) (hy : a.eval y = .slice A2 n2 c2)
    (h : ∀ g w', w'.heap[g]? = some (.cells #[.slice A n c, .slice A2 n2 c2] 22 (0, 0)) → w.grownBy w' none → K (a.put o.dst (.slice (some ⟨g, 0, none⟩) 2 2)) w') : o.wp Try.prog a w K Q := by
  obtain ⟨i0, hi0, hz0, hz1, hz2⟩ := info_parts info_sl
  refine wp_buildSlice 30 22 2 #[(0, x), (1, y)] ho #[.slice A n c, .slice A2 n2 c2] i0 _ Try.underlying30 hi0 hz0 (by rw [hz1]; decide) (by rw [hz1]; decide) ?_ (h _ _ (heap_alloc_new w _) (grown_alloc (grown_refl _ _) _))
  rw [hz1]
  have e : (Array.map (fun (y : Nat × Operand) => (y.1, a.eval y.2)) #[(0, x), (1, y)]).toList = [(0, Value.slice A n c), (1, Value.slice A2 n2 c2)] := by simp [hx, hy]
  rw [e]
  have e1 : Array.range 2 = #[0, 1] := rfl
  simp [Instr.fill, Value.cells, e1]
end

set_option maxRecDepth 100000 in
set_option maxHeartbeats 2000000 in
theorem macMade_in (a a2 : Option Addr) (c c2 : Nat) (key m : List (BitVec 8)) (w : World) (hv : BRow w (.slice a key.length c) key) (hvb : BRow w (.slice a2 m.length c2) m) (hk : key.length ≤ 64) (hm : m.length ≤ 1000) :
    Calls Try.prog 3 #[.slice a key.length c, .slice a2 m.length c2] w fun e w' => e = .returned (.bool true) ∧ Below w.heap.size w w' := by
  have hz1 : ((64 : Int) < (key.length : Int)) = False := eq_false (by omega)
  have hz2 : ((1000 : Int) < (m.length : Int)) = False := eq_false (by omega)
  have hmk : ∀ w, (Instr.makeSlice 22 (.int .i64 64) (.int .i64 64)).run Try.prog w = .ok (.slice (some ⟨w.heap.size, 0, none⟩) 64 64) (w.alloc (.cells (rowB 64 fun _ => 0) 5)) := make_B 64 (by decide)
  have HL := Lib.hid hk
  have HM := Lib.hid hm
  have HV := Lib.hid hv
  have HVB := Lib.hid hvb
  clear hv hvb hk hm
  go_enter Try.func3, Try.ntmps3
  go_wp2_with (first
    | (go_at_call 8; refine (alive7_any _).mono ?_; rintro e w1 ⟨rfl, hb1⟩; have HB1 := Lib.hid hb1; have HK1 := Lib.hid (HV.out.below hb1); have HVB1 := Lib.hid (HVB.out.below hb1); clear hb1; have HG1 := Lib.hid (show ((w1.alloc (.cells (rowB 64 fun _ => 0) 5)).alloc (.cells (rowB 64 fun _ => 0) 5)).heap[w1.heap.size]? = some (.cells (rowB 64 fun _ => 0) 5 (0, 0)) from heap_alloc2_old _ _ _); have HG2 := Lib.hid (show ((w1.alloc (.cells (rowB 64 fun _ => 0) 5)).alloc (.cells (rowB 64 fun _ => 0) 5)).heap[w1.heap.size + 1]? = some (.cells (rowB 64 fun _ => 0) 5 (0, 0)) from heap_alloc2_new _ _ _); have HB2 := Lib.hid (show Below w1.heap.size w1 ((w1.alloc (.cells (rowB 64 fun _ => 0) 5)).alloc (.cells (rowB 64 fun _ => 0) 5)) from below_allocS (below_allocS (Below.refl _ _) _) _))
    | (refine wpList_copy_key rfl (.tmp 26) (.tmp 27) rfl w1.heap.size key 54 rfl (HK1.out.below HB2.out) HL.out HG1.out ?_; intro w2 hg2 hgr2; have HG3 := Lib.hid hg2; have HB3 := Lib.hid (HB2.out.grown hgr2 HB2.out.size (fun k hk => by cases hk; exact Nat.le_refl _)); have HG4 := Lib.hid ((hgr2.block _ (Array.getElem?_eq_some_iff.1 HG2.out).1 (by intro e; injection e with e; omega)).trans HG2.out); clear hg2 hgr2)
    | (refine wpList_copy_key rfl (.tmp 29) (.tmp 30) rfl (w1.heap.size + 1) key 92 rfl (HK1.out.below HB3.out) HL.out HG4.out ?_; intro w3 hg3 hgr3; have HA3 := Lib.hid (show RMacAt w1 key 0 w1.heap.size (w1.heap.size + 1) w3 from ⟨(hgr3.block _ (Array.getElem?_eq_some_iff.1 HG3.out).1 (by intro e; injection e with e; omega)).trans HG3.out, hg3, Nat.le_refl _, by omega, HB3.out.grown hgr3 HB3.out.size (fun k hk => by cases hk; omega)⟩); clear hg3 hgr3))
  clear hmk HG1 HG2 HB2 HG3 HB3 HG4
  go_loopw [8] (fun i wr => ∃ k : Nat, k ≤ 64 ∧ i = .int .i64 k ∧ RMacAt w1 key k w1.heap.size (w1.heap.size + 1) wr) (fun i _ => 64 - (intOf i).toNat)
  case atStart => exact ⟨0, by omega, rfl, HA3.out⟩
  case round =>
    clear HA3
    obtain ⟨k, hk, rfl, hA⟩ := hrel
    have HA := Lib.hid hA
    clear hA
    by_cases hlt : k < 64
    · have hk0 : (0 : Int) ≤ (k : Int) := by omega
      have hk1 : (k : Int) < 64 := by omega
      have ci : wr.cell? ⟨w1.heap.size, k, none⟩ = some (.int .u8 (B8 (padT key 54 k k))) := cell_rowB HA.out.hi hlt
      have fi : wr.frozen? ⟨w1.heap.size, k, none⟩ = false := frozen_of_row wr _ _ _ _ HA.out.hi
      have co : wr.cell? ⟨w1.heap.size + 1, k, none⟩ = some (.int .u8 (B8 (padT key 92 k k))) := cell_rowB HA.out.ho hlt
      have fo : wr.frozen? ⟨w1.heap.size + 1, k, none⟩ = false := frozen_of_row wr _ _ _ _ HA.out.ho
      have HST := Lib.hid (padT_step key 54 k)
      have HST2 := Lib.hid (padT_step key 92 k)
      have hx : bits .xor .u8 (B8 (padT key 54 k k)) 54 = B8 (padT key 54 k k ^^^ 54) := B8_xor (padT key 54 k k) 54
      have hy : bits .xor .u8 (B8 (padT key 92 k k)) 92 = B8 (padT key 92 k k ^^^ 92) := B8_xor (padT key 92 k k) 92
      generalize padT key 54 k k = p at *
      generalize padT key 92 k k = q at *
      generalize p ^^^ 54 = p1 at *
      generalize q ^^^ 92 = q1 at *
      go_wp2_with fail
      go_roundw
      case rel =>
        refine ⟨k + 1, by omega, by go_num, ?_, ?_, Nat.le_refl _, by omega, (HA.out.hb.setCell (Nat.le_refl _) _).setCell (by simp) _⟩
        · refine (heap_setCell_other _ _ _ _ (by simp)).trans ?_
          rw [← HST.out]
          exact heap_set_rowB _ HA.out.hi hlt
        · rw [← HST2.out]
          exact heap_set_rowB _ ((heap_setCell_other _ _ _ _ (by simp)).trans HA.out.ho) hlt
      case measure => simp [intOf]; omega
    · obtain rfl : k = 64 := by omega
      rw [show ((64 : Nat) : Int) = 64 from rfl]
      have HI := Lib.hid (show BRow wr (.slice (some ⟨w1.heap.size, 0, none⟩) 64 64) (padK key 54) from by rw [← padT_full]; exact brow_row HA.out.hi)
      have HO := Lib.hid (show BRow wr (.slice (some ⟨w1.heap.size + 1, 0, none⟩) 64 64) (padK key 92) from by rw [← padT_full]; exact brow_row HA.out.ho)
      have HB := Lib.hid HA.out.hb
      have HVR := Lib.hid (HVB1.out.below HB.out)
      have HKR := Lib.hid (HK1.out.below HB.out)
      clear HA
      obtain ⟨h1, hh1⟩ : ∃ h1, h1 = sha (padK key 54 ++ m) := ⟨_, rfl⟩
      obtain ⟨s, hs⟩ : ∃ s, s = macS key m := ⟨_, rfl⟩
      have HS1 := Lib.hid (show ∀ (v : Value) (w : World), BRows w v [padK key 54, m] → Calls Try.prog 9 #[v] w fun e w' => e = .returned (.agg (rowB 32 h1)) ∧ Below w.heap.size w w' from fun v w h => by
        rw [hh1]; exact sum_two v _ _ w h (by rw [padK_length]; have := HM.out; omega))
      have HS2 := Lib.hid (show ∀ (v : Value) (w : World), BRows w v [padK key 92, (List.range 32).map h1] → Calls Try.prog 9 #[v] w fun e w' => e = .returned (.agg (rowB 32 s)) ∧ Below w.heap.size w w' from fun v w h => by
        have := sum_two v _ _ w h (by rw [padK_length]; simp)
        rw [hs]
        unfold macS
        rw [keyS_short HL.out, ← hh1]
        exact this)
      have HS3 := Lib.hid (show ∀ (v vb : Value) (w : World), BRow w v key → BRows w vb [m] → Calls Try.prog 10 #[v, vb] w fun e w' => e = .returned (.agg (rowB 32 s)) ∧ Below w.heap.size w w' from fun v vb w h1 h2 => by
        have := mac_any v vb key [m] w h1 h2 (by have := HL.out; omega) (by simp) (by have := HM.out; simp; omega)
        rw [show ([m] : List (List (BitVec 8))).flatten = m by simp, ← hs] at this
        exact this)
      have HZ := Lib.hid (show (Try.prog.info? 25).map (·.size) = some (rowB 32 h1).size by rw [size32, rowB_size])
      clear hh1 hs
      go_wp2_with fail
      have HBX := Lib.hid (show Below wr.heap.size wr (wr.alloc (.cells #[.slice (some ⟨w1.heap.size, 0, none⟩) 64 64, .slice a2 m.length c2] 22)) from below_allocS (Below.refl _ _) _)
      refine (HS1.out _ _ (brows_two (c := 2) (heap_alloc_new wr _) (HI.out.below HBX.out) (HVR.out.below HBX.out))).mono ?_
      rintro e w5 ⟨rfl, hb5⟩
      have HB5 := Lib.hid (below_keep HBX.out hb5)
      clear hb5
      go_wp2_with (first
        | (with_reducible refine wpList_alloc_row rfl 25 rfl 32 _ info32 ?_)
        | ((with_reducible show wpList _ _ _ (⟨_, .store 25 _ _, _, _, _, _⟩ :: _) _ _); refine wpList_store_rowTo rfl 25 _ _ rfl rfl w5.heap.size (rowB 32 h1) rfl rfl 25 _ (heap_alloc_new _ _) HZ.out (by rw [row_size, rowB_size]) (rowB_oneCell _ _) ?_))
      have HB6 := Lib.hid (show Below wr.heap.size wr ((w5.alloc (.cells (row 32 fun _ => .int .u8 0) 25)).setRow w5.heap.size (rowB 32 h1)) from below_setRow (below_allocS HB5.out _) HB5.out.size _)
      have HG6 := Lib.hid (show ((w5.alloc (.cells (row 32 fun _ => .int .u8 0) 25)).setRow w5.heap.size (rowB 32 h1)).heap[w5.heap.size]? = some (.cells (rowB 32 h1) 25 (0, 0)) from heap_setRow_at (heap_alloc_new _ _))
      simp only [Act.put, List.setIfInBounds_toArray, List.set_cons_zero, List.set_cons_succ]
      generalize (w5.alloc (.cells (row 32 fun _ => .int .u8 0) 25)).setRow w5.heap.size (rowB 32 h1) = w6 at *
      generalize w5.heap.size = g at *
      have HV6 := Lib.hid (HVR.out.below HB6.out)
      have HK6 := Lib.hid (HKR.out.below HB6.out)
      have HO6 := Lib.hid (HO.out.below HB6.out)
      clear HB5 HBX HZ
      refine wp_region_tree (S := fun w' => Below w6.heap.size w6 w') 10 (by kernel_rfl) (by kernel_rfl) (Below.refl _ _).drew (fun hHeld => ?_)
      refine wpAnyH_take (i := 0) (v := ?_) rfl (by kernel_rfl) (by kernel_rfl) (by kernel_rfl) (fun _ _ _ h => h) (Or.inl ⟨by rfl, ?_⟩) hHeld ?_
      rotate_left
      · (intro w hSw; go_simp; first | done | with_reducible rfl)
      try simp only [Act.put, List.getElem_toArray, List.getElem_cons_zero, List.getElem_cons_succ, List.setIfInBounds_toArray, List.set_cons_zero, List.set_cons_succ]
      refine wpAnyH_take (i := 1) (v := ?_) rfl (by kernel_rfl) (by kernel_rfl) (by kernel_rfl) (fun _ _ _ h => h) (Or.inl ⟨by rfl, ?_⟩) hHeld ?_
      rotate_left
      · (intro w hSw; go_simp; first | done | with_reducible rfl)
      try simp only [Act.put, List.getElem_toArray, List.getElem_cons_zero, List.getElem_cons_succ, List.setIfInBounds_toArray, List.set_cons_zero, List.set_cons_succ]
      refine wpAnyH_take (i := 4) (v := ?_) rfl (by kernel_rfl) (by kernel_rfl) (by kernel_rfl) (fun _ _ _ h => h) (Or.inl ⟨by rfl, ?_⟩) hHeld ?_
      rotate_left
      · (intro w hSw; go_simp; first | done | with_reducible rfl)
      try simp only [Act.put, List.getElem_toArray, List.getElem_cons_zero, List.getElem_cons_succ, List.setIfInBounds_toArray, List.set_cons_zero, List.set_cons_succ]
      refine wpAnyH_take (i := 5) (v := ?_) rfl (by kernel_rfl) (by kernel_rfl) (by kernel_rfl) (fun _ _ _ h => h) (Or.inl ⟨by rfl, ?_⟩) hHeld ?_
      rotate_left
      · (intro w hSw; go_simp; first | done | with_reducible rfl)
      try simp only [Act.put, List.getElem_toArray, List.getElem_cons_zero, List.getElem_cons_succ, List.setIfInBounds_toArray, List.set_cons_zero, List.set_cons_succ]
      refine wpAnyH_ready (rs := [2, 6]) (by kernel_rfl) (by simp) ((AllReadyH.cons rfl (fun K hK => ?_) (AllReadyH.cons rfl (fun K hK => ?_) AllReadyH.nil)))
      · rw [if_pos (by rfl)]
        refine wp_build_s_to (.tmp 57) rfl a2 m.length c2 rfl ?_; intro g2 w22 h2 hg2
        refine hK.out _ _ (hHeld.grown hg2 hHeld.size (fun k hk => by cases hk)) (fun hHeld2 => ?_)
        clear hK K hHeld
        have hHeld := hHeld2
        clear hHeld2
        try simp only [Act.put, List.getElem_toArray, List.getElem_cons_zero, List.getElem_cons_succ, List.setIfInBounds_toArray, List.set_cons_zero, List.set_cons_succ]
        refine wpAnyH_ready (rs := [3, 6]) (by kernel_rfl) (by simp) ((AllReadyH.cons rfl (fun K hK => ?_) (AllReadyH.cons rfl (fun K hK => ?_) AllReadyH.nil)))
        · rw [if_pos (by rfl)]
          go_simp; refine (HS3.out _ _ _ (HK6.out.below hHeld) (brows_one h2 (HV6.out.below hHeld))).mono ?_; rintro e w33 ⟨rfl, hbc⟩; dsimp only
          refine hK.out _ _ (below_keep hHeld hbc) (fun hHeld2 => ?_)
          clear hK K hHeld
          have hHeld := hHeld2
          clear hHeld2
          try simp only [Act.put, List.getElem_toArray, List.getElem_cons_zero, List.getElem_cons_succ, List.setIfInBounds_toArray, List.set_cons_zero, List.set_cons_succ]
          refine wpAnyH_ready (rs := [6]) (by kernel_rfl) (by simp) ((AllReadyH.cons rfl (fun K hK => ?_) AllReadyH.nil))
          rw [if_pos (by rfl)]
          refine wp_build_s2_to (.tmp 60) (.tmp 61) rfl (some ⟨w1.heap.size + 1, 0, none⟩) 64 64 (some ⟨g, 0, none⟩) 32 32 rfl rfl ?_; intro g6 w62 h62 hg62
          refine hK.out _ _ (hHeld.grown hg62 hHeld.size (fun k hk => by cases hk)) (fun hHeld2 => ?_)
          clear hK K hHeld
          have hHeld := hHeld2
          clear hHeld2
          try simp only [Act.put, List.getElem_toArray, List.getElem_cons_zero, List.getElem_cons_succ, List.setIfInBounds_toArray, List.set_cons_zero, List.set_cons_succ]
          refine wpAnyH_ready (rs := [7]) (by kernel_rfl) (by simp) ((AllReadyH.cons rfl (fun K hK => ?_) AllReadyH.nil))
          rw [if_pos (by rfl)]
          go_simp; refine (HS2.out _ _ (brows_two h62 (HO6.out.below hHeld) (brow_num ((hHeld.block _ (Array.getElem?_eq_some_iff.1 HG6.out).1).trans HG6.out)))).mono ?_; rintro e w77 ⟨rfl, hbc⟩; dsimp only
          refine hK.out _ _ (below_keep hHeld hbc) (fun hHeld2 => ?_)
          clear hK K hHeld
          have hHeld := hHeld2
          clear hHeld2
          try simp only [Act.put, List.getElem_toArray, List.getElem_cons_zero, List.getElem_cons_succ, List.setIfInBounds_toArray, List.set_cons_zero, List.set_cons_succ]
          refine wpAnyH_take (i := 8) rfl (by kernel_rfl) (by kernel_rfl) (by kernel_rfl) (fun _ _ _ h => h) (yieldsIf_sameNum (by rfl) _ _ rfl s rfl rfl) hHeld ?_
          try simp only [Act.put, List.getElem_toArray, List.getElem_cons_zero, List.getElem_cons_succ, List.setIfInBounds_toArray, List.set_cons_zero, List.set_cons_succ]
          refine wpAnyH_take (i := 9) (v := ?_) rfl (by kernel_rfl) (by kernel_rfl) (by kernel_rfl) (fun _ _ _ h => h) (Or.inl ⟨by rfl, ?_⟩) hHeld ?_
          rotate_left
          · (intro w hSw; go_simp; first | done | with_reducible rfl)
          try simp only [Act.put, List.getElem_toArray, List.getElem_cons_zero, List.getElem_cons_succ, List.setIfInBounds_toArray, List.set_cons_zero, List.set_cons_succ]
          refine wpAnyH_done (by kernel_rfl) (NoPanic.normal ?_) _
          (go_wp2; go_ret; exact ⟨rfl, below_keep HB1.out (below_keep HB.out (below_keep HB6.out hHeld))⟩)
        · rw [if_pos (by rfl)]
          refine wp_build_s2_to (.tmp 60) (.tmp 61) rfl (some ⟨w1.heap.size + 1, 0, none⟩) 64 64 (some ⟨g, 0, none⟩) 32 32 rfl rfl ?_; intro g6 w62 h62 hg62
          replace h2 := keepCell h2 hg62 nofun
          refine hK.out _ _ (hHeld.grown hg62 hHeld.size (fun k hk => by cases hk)) (fun hHeld2 => ?_)
          clear hK K hHeld
          have hHeld := hHeld2
          clear hHeld2
          try simp only [Act.put, List.getElem_toArray, List.getElem_cons_zero, List.getElem_cons_succ, List.setIfInBounds_toArray, List.set_cons_zero, List.set_cons_succ]
          refine wpAnyH_ready (rs := [3]) (by kernel_rfl) (by simp) ((AllReadyH.cons rfl (fun K hK => ?_) AllReadyH.nil))
          rw [if_pos (by rfl)]
          go_simp; refine (HS3.out _ _ _ (HK6.out.below hHeld) (brows_one h2 (HV6.out.below hHeld))).mono ?_; rintro e w33 ⟨rfl, hbc⟩; dsimp only
          replace h62 := (hbc.block _ (Array.getElem?_eq_some_iff.1 h62).1).trans h62
          refine hK.out _ _ (below_keep hHeld hbc) (fun hHeld2 => ?_)
          clear hK K hHeld
          have hHeld := hHeld2
          clear hHeld2
          try simp only [Act.put, List.getElem_toArray, List.getElem_cons_zero, List.getElem_cons_succ, List.setIfInBounds_toArray, List.set_cons_zero, List.set_cons_succ]
          refine wpAnyH_ready (rs := [7]) (by kernel_rfl) (by simp) ((AllReadyH.cons rfl (fun K hK => ?_) AllReadyH.nil))
          rw [if_pos (by rfl)]
          go_simp; refine (HS2.out _ _ (brows_two h62 (HO6.out.below hHeld) (brow_num ((hHeld.block _ (Array.getElem?_eq_some_iff.1 HG6.out).1).trans HG6.out)))).mono ?_; rintro e w77 ⟨rfl, hbc⟩; dsimp only
          refine hK.out _ _ (below_keep hHeld hbc) (fun hHeld2 => ?_)
          clear hK K hHeld
          have hHeld := hHeld2
          clear hHeld2
          try simp only [Act.put, List.getElem_toArray, List.getElem_cons_zero, List.getElem_cons_succ, List.setIfInBounds_toArray, List.set_cons_zero, List.set_cons_succ]
          refine wpAnyH_take (i := 8) rfl (by kernel_rfl) (by kernel_rfl) (by kernel_rfl) (fun _ _ _ h => h) (yieldsIf_sameNum (by rfl) _ _ rfl s rfl rfl) hHeld ?_
          try simp only [Act.put, List.getElem_toArray, List.getElem_cons_zero, List.getElem_cons_succ, List.setIfInBounds_toArray, List.set_cons_zero, List.set_cons_succ]
          refine wpAnyH_take (i := 9) (v := ?_) rfl (by kernel_rfl) (by kernel_rfl) (by kernel_rfl) (fun _ _ _ h => h) (Or.inl ⟨by rfl, ?_⟩) hHeld ?_
          rotate_left
          · (intro w hSw; go_simp; first | done | with_reducible rfl)
          try simp only [Act.put, List.getElem_toArray, List.getElem_cons_zero, List.getElem_cons_succ, List.setIfInBounds_toArray, List.set_cons_zero, List.set_cons_succ]
          refine wpAnyH_done (by kernel_rfl) (NoPanic.normal ?_) _
          (go_wp2; go_ret; exact ⟨rfl, below_keep HB1.out (below_keep HB.out (below_keep HB6.out hHeld))⟩)
      · rw [if_pos (by rfl)]
        refine wp_build_s2_to (.tmp 60) (.tmp 61) rfl (some ⟨w1.heap.size + 1, 0, none⟩) 64 64 (some ⟨g, 0, none⟩) 32 32 rfl rfl ?_; intro g6 w62 h62 hg62
        refine hK.out _ _ (hHeld.grown hg62 hHeld.size (fun k hk => by cases hk)) (fun hHeld2 => ?_)
        clear hK K hHeld
        have hHeld := hHeld2
        clear hHeld2
        try simp only [Act.put, List.getElem_toArray, List.getElem_cons_zero, List.getElem_cons_succ, List.setIfInBounds_toArray, List.set_cons_zero, List.set_cons_succ]
        refine wpAnyH_ready (rs := [2]) (by kernel_rfl) (by simp) ((AllReadyH.cons rfl (fun K hK => ?_) AllReadyH.nil))
        rw [if_pos (by rfl)]
        refine wp_build_s_to (.tmp 57) rfl a2 m.length c2 rfl ?_; intro g2 w22 h2 hg2
        replace h62 := keepCell h62 hg2 nofun
        refine hK.out _ _ (hHeld.grown hg2 hHeld.size (fun k hk => by cases hk)) (fun hHeld2 => ?_)
        clear hK K hHeld
        have hHeld := hHeld2
        clear hHeld2
        try simp only [Act.put, List.getElem_toArray, List.getElem_cons_zero, List.getElem_cons_succ, List.setIfInBounds_toArray, List.set_cons_zero, List.set_cons_succ]
        refine wpAnyH_ready (rs := [3]) (by kernel_rfl) (by simp) ((AllReadyH.cons rfl (fun K hK => ?_) AllReadyH.nil))
        rw [if_pos (by rfl)]
        go_simp; refine (HS3.out _ _ _ (HK6.out.below hHeld) (brows_one h2 (HV6.out.below hHeld))).mono ?_; rintro e w33 ⟨rfl, hbc⟩; dsimp only
        replace h62 := (hbc.block _ (Array.getElem?_eq_some_iff.1 h62).1).trans h62
        refine hK.out _ _ (below_keep hHeld hbc) (fun hHeld2 => ?_)
        clear hK K hHeld
        have hHeld := hHeld2
        clear hHeld2
        try simp only [Act.put, List.getElem_toArray, List.getElem_cons_zero, List.getElem_cons_succ, List.setIfInBounds_toArray, List.set_cons_zero, List.set_cons_succ]
        refine wpAnyH_ready (rs := [7]) (by kernel_rfl) (by simp) ((AllReadyH.cons rfl (fun K hK => ?_) AllReadyH.nil))
        rw [if_pos (by rfl)]
        go_simp; refine (HS2.out _ _ (brows_two h62 (HO6.out.below hHeld) (brow_num ((hHeld.block _ (Array.getElem?_eq_some_iff.1 HG6.out).1).trans HG6.out)))).mono ?_; rintro e w77 ⟨rfl, hbc⟩; dsimp only
        refine hK.out _ _ (below_keep hHeld hbc) (fun hHeld2 => ?_)
        clear hK K hHeld
        have hHeld := hHeld2
        clear hHeld2
        try simp only [Act.put, List.getElem_toArray, List.getElem_cons_zero, List.getElem_cons_succ, List.setIfInBounds_toArray, List.set_cons_zero, List.set_cons_succ]
        refine wpAnyH_take (i := 8) rfl (by kernel_rfl) (by kernel_rfl) (by kernel_rfl) (fun _ _ _ h => h) (yieldsIf_sameNum (by rfl) _ _ rfl s rfl rfl) hHeld ?_
        try simp only [Act.put, List.getElem_toArray, List.getElem_cons_zero, List.getElem_cons_succ, List.setIfInBounds_toArray, List.set_cons_zero, List.set_cons_succ]
        refine wpAnyH_take (i := 9) (v := ?_) rfl (by kernel_rfl) (by kernel_rfl) (by kernel_rfl) (fun _ _ _ h => h) (Or.inl ⟨by rfl, ?_⟩) hHeld ?_
        rotate_left
        · (intro w hSw; go_simp; first | done | with_reducible rfl)
        try simp only [Act.put, List.getElem_toArray, List.getElem_cons_zero, List.getElem_cons_succ, List.setIfInBounds_toArray, List.set_cons_zero, List.set_cons_succ]
        refine wpAnyH_done (by kernel_rfl) (NoPanic.normal ?_) _
        (go_wp2; go_ret; exact ⟨rfl, below_keep HB1.out (below_keep HB.out (below_keep HB6.out hHeld))⟩)

set_option maxHeartbeats 1000000 in
theorem macMade_out (a a2 : Option Addr) (k c k2 c2 : Nat) (w : World) (h : 64 < k ∨ 1000 < k2) :
    Calls Try.prog 3 #[.slice a k c, .slice a2 k2 c2] w fun e w' => e = .returned (.bool true) ∧ Below w.heap.size w w' := by
  by_cases h1 : 64 < k
  · have hz1 : ((64 : Int) < (k : Int)) = True := eq_true (by omega)
    clear h h1
    go_enter Try.func3, Try.ntmps3
    go_wp2_with (go_at_call 8; refine (alive7_any _).mono ?_; rintro e w1 ⟨rfl, hb1⟩)
    go_ret
    exact ⟨rfl, hb1⟩
  · have hz1 : ((64 : Int) < (k : Int)) = False := eq_false (by omega)
    have hz2 : ((1000 : Int) < (k2 : Int)) = True := eq_true (by omega)
    clear h h1
    go_enter Try.func3, Try.ntmps3
    go_wp2_with (go_at_call 8; refine (alive7_any _).mono ?_; rintro e w1 ⟨rfl, hb1⟩)
    go_ret
    exact ⟨rfl, hb1⟩

theorem macMade_any (v vb : Value) (key m : List (BitVec 8)) (w : World) (hv : BRow w v key) (hvb : BRow w vb m) :
    Calls Try.prog 3 #[v, vb] w fun e w' => e = .returned (.bool true) ∧ Below w.heap.size w w' := by
  obtain ⟨a, c, rfl⟩ := hv.shape
  obtain ⟨a2, c2, rfl⟩ := hvb.shape
  by_cases h : 64 < key.length ∨ 1000 < m.length
  · exact macMade_out a a2 _ c _ c2 w h
  · exact macMade_in a a2 c c2 key m w hv hvb (by omega) (by omega)

theorem macMade_walk {w : World} (v : Value) (key : List (BitVec 8)) (hv : BRow w v key) (_hq : key.length ≤ maxLen ∧ CapOk v) (vb : Value) (m : List (BitVec 8)) (hvb : BRow w vb m) (_hq2 : m.length ≤ maxLen ∧ CapOk vb) :
    Calls Try.prog 3 #[v, vb] w fun e w' => e = .returned (.bool true) ∧ Below w.heap.size w w' := macMade_any v vb key m w hv hvb

end Go.Proofs.Ytnnllficjljjkaa
