/-
  Trees of hashes, the program's own: the walks of leaf, node, cut, Root (package merkle).
-/
import Derived.Test.YtnnllficjljjkaaMac
import Derived.Test.YtnnllficjljjkaaTree
import Derived.Great.BuildSlice
namespace Go.Proofs.Ytnnllficjljjkaa
open Go.RowKit
set_option linter.unusedVariables false
set_option linter.unusedSimpArgs false

section
variable {o : Oper} {a : Act} {w : World} {K : Act → World → Prop} {Q : Exit → Act → World → Prop}
/-- Slice literals of one byte; of three slices. -/
theorem wpm_build1 (x : Operand) (ho : o.op = .buildSlice 22 1 #[(0, x)]) (b : BitVec 8) (hx : a.eval x = .int .u8 (B8 b))
    (h : ∀ g w', BRow w' (.slice (some ⟨g, 0, none⟩) 1 1) [b] → w.grownBy w' none → K (a.put o.dst (.slice (some ⟨g, 0, none⟩) 1 1)) w') : o.wp Try.prog a w K Q := by
  obtain ⟨i0, hi0, hz0, hz1, hz2⟩ := info_parts info_u8
  refine wp_buildSlice 22 5 1 #[(0, x)] ho #[.int .u8 (B8 b)] i0 _ Try.underlying22 hi0 hz0 (by rw [hz1]; decide) (by rw [hz1]; decide) ?_ (h _ _ (brow_mk (c := 1) [b] (heap_alloc_new w _)) (grown_alloc (grown_refl _ _) _))
  rw [hz1]
  have e : (Array.map (fun (y : Nat × Operand) => (y.1, a.eval y.2)) #[(0, x)]).toList = [(0, Value.int .u8 (B8 b))] := by simp [hx]
  rw [e]
  have e1 : Array.range 1 = #[0] := rfl
  simp [Instr.fill, Value.cells, e1]
theorem wpm_build3 (x y z : Operand) (ho : o.op = .buildSlice 30 3 #[(0, x), (1, y), (2, z)]) (A : Option Addr) (n c : Nat) (A2 : Option Addr) (n2 c2 : Nat) (A3 : Option Addr) (n3 c3 : Nat) (hx : a.eval x = .slice A n c) (hy : a.eval y = .slice A2 n2 c2) (hz : a.eval z = .slice A3 n3 c3)
    (h : ∀ g w', w'.heap[g]? = some (.cells #[.slice A n c, .slice A2 n2 c2, .slice A3 n3 c3] 22 (0, 0)) → w.grownBy w' none → K (a.put o.dst (.slice (some ⟨g, 0, none⟩) 3 3)) w') : o.wp Try.prog a w K Q := by
  obtain ⟨i0, hi0, hz0, hz1, hz2⟩ := info_parts info_sl
  refine wp_buildSlice 30 22 3 #[(0, x), (1, y), (2, z)] ho #[.slice A n c, .slice A2 n2 c2, .slice A3 n3 c3] i0 _ Try.underlying30 hi0 hz0 (by rw [hz1]; decide) (by rw [hz1]; decide) ?_ (h _ _ (heap_alloc_new w _) (grown_alloc (grown_refl _ _) _))
  rw [hz1]
  have e : (Array.map (fun (y : Nat × Operand) => (y.1, a.eval y.2)) #[(0, x), (1, y), (2, z)]).toList = [(0, Value.slice A n c), (1, Value.slice A2 n2 c2), (2, Value.slice A3 n3 c3)] := by simp [hx, hy, hz]
  rw [e]
  have e1 : Array.range 3 = #[0, 1, 2] := rfl
  simp [Instr.fill, Value.cells, e1]
theorem wpm_store (x y : Operand) (ho : o.op = .store 25 x y) (g : Nat) (f : Nat → BitVec 8)
    (hx : a.eval x = .pointer (some ⟨g, 0, none⟩)) (hy : a.eval y = .agg (rowB 32 f)) (t : TypeId) (S : Nat → Value) (hg : w.heap[g]? = some (.cells (row 32 S) t (0, 0)))
    (h : ∀ w', w'.heap[g]? = some (.cells (rowB 32 f) t (0, 0)) → w.grownBy w' (some g) → K (a.put o.dst undef) w') : o.wp Try.prog a w K Q :=
  wp_store_row 25 x y ho g (rowB 32 f) hx (by rw [hy]) t (row 32 S) hg (by rw [size32, rowB_size]) (by rw [row_size, rowB_size]) (rowB_oneCell _ _)
    (h _ (heap_setRow_at hg) (grown_setRow (grown_refl _ _) (.inr rfl) _))
end
theorem grown_up {w w' : World} {g : Nat} (h : w.grownBy w' none) : w.grownBy w' (some g) := ⟨h.os, h.tape, h.output, h.size, fun k hk _ => h.block k hk nofun⟩

set_option maxRecDepth 100000 in
set_option maxHeartbeats 1000000 in
theorem leaf_any (v : Value) (b : List (BitVec 8)) (w : World) (hv : BRow w v b) (hl : b.length ≤ 999999000) :
    Calls Try.prog 21 #[v] w fun e w' => e = .returned (.agg (rowB 32 (leafS b))) ∧ Below w.heap.size w w' := by
  obtain ⟨a, c, rfl⟩ := hv.shape
  obtain ⟨h, hh⟩ : ∃ h, h = leafS b := ⟨_, rfl⟩
  have HS := Lib.hid (show ∀ (v : Value) (w : World), BRows w v [[0], b] → Calls Try.prog 9 #[v] w fun e w' => e = .returned (.agg (rowB 32 h)) ∧ Below w.heap.size w w' from fun v w hv => by
    rw [hh]; exact sum_two v [0] b w hv (by simp; omega))
  rw [← hh]
  have HB1 := Lib.hid (show Below w.heap.size w (w.alloc (.cells (row 32 fun _ => .int .u8 0) 25)) from below_allocS (Below.refl _ _) _)
  have HR1 := Lib.hid (show (w.alloc (.cells (row 32 fun _ => .int .u8 0) 25)).heap[w.heap.size]? = some (.cells (row 32 fun _ => .int .u8 0) 25 (0, 0)) from heap_alloc_new _ _)
  have HV1 := Lib.hid (hv.below HB1.out)
  have HZ := Lib.hid (show (Try.prog.info? 25).map (·.size) = some (rowB 32 h).size by rw [size32, rowB_size])
  clear hv hl hh
  go_enter Try.func21, Try.ntmps21
  go_wp2_with (with_reducible refine wpList_alloc_row rfl 25 rfl 32 _ info32 ?_; generalize w.alloc (.cells (row 32 fun _ => .int .u8 0) 25) = w1 at *)
  have hb0 : Below w1.heap.size w1 (w1.alloc (.cells #[.int .u8 0] 5)) := below_allocS (Below.refl _ _) _
  have hb1 := brows_two (c := 2) (heap_alloc_new (w1.alloc (.cells #[.int .u8 0] 5)) (.cells #[.slice (some ⟨w1.heap.size, 0, none⟩) 1 1, .slice a b.length c] 22)) ((brow_mk (c := 1) [0] (heap_alloc_new w1 _)).below (below_allocS (Below.refl _ _) _)) (HV1.out.below (below_allocS hb0 _))
  have hs1 : (w1.alloc (.cells #[.int .u8 0] 5)).heap.size = w1.heap.size + 1 := by simp
  rw [hs1] at hb1
  refine (HS.out _ _ hb1).mono ?_
  rintro e w2 ⟨rfl, hb2⟩
  have HB2 := Lib.hid (show Below w1.heap.size w1 w2 from below_keep (below_allocS hb0 _) hb2)
  have HR2 := Lib.hid ((HB2.out.block _ (Array.getElem?_eq_some_iff.1 HR1.out).1).trans HR1.out)
  clear hb0 hb1 hb2 hs1
  go_wp2_with ((with_reducible show wpList _ _ _ (⟨_, .store 25 _ _, _, _, _, _⟩ :: _) _ _); refine wpList_store_rowTo rfl 25 _ _ rfl rfl w.heap.size (rowB 32 h) rfl rfl 25 _ HR2.out HZ.out (by rw [row_size, rowB_size]) (rowB_oneCell _ _) ?_)
  refine bodyPost_ret (results_cell_row rfl _ _ w.heap.size 25 (rowB 32 h) (0, 0) _ rfl (heap_setRow_at HR2.out) Try.underlying25 rfl HZ.out) rfl ?_
  exact ⟨rfl, below_setRow (below_keep HB1.out HB2.out) (Nat.le_refl _) _⟩

set_option maxRecDepth 100000 in
set_option maxHeartbeats 2000000 in
theorem node_any (f k : Nat → BitVec 8) (w : World) :
    Calls Try.prog 23 #[.agg (rowB 32 f), .agg (rowB 32 k)] w fun e w' => e = .returned (.agg (rowB 32 (nodeS f k))) ∧ Below w.heap.size w w' := by
  obtain ⟨h, hh⟩ : ∃ h, h = nodeS f k := ⟨_, rfl⟩
  have HS := Lib.hid (show ∀ (v : Value) (w : World), BRows w v [[1], (List.range 32).map f, (List.range 32).map k] → Calls Try.prog 9 #[v] w fun e w' => e = .returned (.agg (rowB 32 h)) ∧ Below w.heap.size w w' from fun v w hv => by
    have := sum_any v _ w hv (by simp) (by simp)
    rw [hh]
    have e : ([[1], (List.range 32).map f, (List.range 32).map k] : List (List (BitVec 8))).flatten = 1 :: (num32 f ++ num32 k) := by simp [num32]
    rw [e] at this
    exact this)
  rw [← hh]
  clear hh
  go_enter Try.func23, Try.ntmps23
  go_wp2_with (with_reducible refine wpList_alloc_row rfl 25 rfl 32 _ info32 ?_)
  have hs1 : (w.alloc (.cells (rowB 32 f) 25)).heap.size = w.heap.size + 1 := by simp
  have hs2 : ((w.alloc (.cells (rowB 32 f) 25)).alloc (.cells (rowB 32 k) 25)).heap.size = w.heap.size + 2 := by simp
  simp only [Act.put, List.setIfInBounds_toArray, List.set_cons_zero, List.set_cons_succ, hs1, hs2]
  have hb2 : Below w.heap.size w ((w.alloc (.cells (rowB 32 f) 25)).alloc (.cells (rowB 32 k) 25)) := below_allocS (below_allocS (Below.refl _ _) _) _
  have hup := fun o => (show Below ((w.alloc (.cells (rowB 32 f) 25)).alloc (.cells (rowB 32 k) 25)).heap.size ((w.alloc (.cells (rowB 32 f) 25)).alloc (.cells (rowB 32 k) 25)) (((w.alloc (.cells (rowB 32 f) 25)).alloc (.cells (rowB 32 k) 25)).alloc o) from below_allocS (Below.refl _ _) _)
  have HB3 := Lib.hid (show Below w.heap.size w (((w.alloc (.cells (rowB 32 f) 25)).alloc (.cells (rowB 32 k) 25)).alloc (.cells (row 32 fun _ => .int .u8 0) 25)) from below_allocS hb2 _)
  have HF3 := Lib.hid (show (((w.alloc (.cells (rowB 32 f) 25)).alloc (.cells (rowB 32 k) 25)).alloc (.cells (row 32 fun _ => .int .u8 0) 25)).heap[w.heap.size]? = some (.cells (rowB 32 f) 25 (0, 0)) from ((hup _).block _ (by rw [hs2]; omega)).trans (heap_alloc2_old _ _ _))
  have HK3 := Lib.hid (show (((w.alloc (.cells (rowB 32 f) 25)).alloc (.cells (rowB 32 k) 25)).alloc (.cells (row 32 fun _ => .int .u8 0) 25)).heap[w.heap.size + 1]? = some (.cells (rowB 32 k) 25 (0, 0)) from ((hup _).block _ (by rw [hs2]; omega)).trans (heap_alloc2_new _ _ _))
  have HT3 := Lib.hid (show (((w.alloc (.cells (rowB 32 f) 25)).alloc (.cells (rowB 32 k) 25)).alloc (.cells (row 32 fun _ => .int .u8 0) 25)).heap[w.heap.size + 2]? = some (.cells (row 32 fun _ => .int .u8 0) 25 (0, 0)) from by rw [← hs2]; exact heap_alloc_new _ _)
  clear hb2 hup hs1 hs2
  generalize ((w.alloc (.cells (rowB 32 f) 25)).alloc (.cells (rowB 32 k) 25)).alloc (.cells (row 32 fun _ => .int .u8 0) 25) = W at *
  have hlf := (Array.getElem?_eq_some_iff.1 HF3.out).1
  have hlk := (Array.getElem?_eq_some_iff.1 HK3.out).1
  have hlt := (Array.getElem?_eq_some_iff.1 HT3.out).1
  refine wp_region_plan (S := fun w' => W.grownBy w' (some (w.heap.size + 2))) [1, 2, 0, 3, 4, 5] [true, true, false, false, false, false] (by kernel_rfl) (by kernel_rfl) (grown_drew (grown_refl _ _)) (fun _ => ?_)
  simp only [List.filterMap_cons, List.filterMap_nil, List.getElem?_toArray, List.getElem?_cons_zero, List.getElem?_cons_succ]
  refine seqH_take (v := ?_) (Or.inl ⟨by rfl, ?_⟩) ?_
  rotate_left
  · (intro w hSw; go_simp; first | done | with_reducible rfl)
  try simp only [Act.put, List.setIfInBounds_toArray, List.set_cons_zero, List.set_cons_succ]
  refine seqH_take (v := ?_) (Or.inl ⟨by rfl, ?_⟩) ?_
  rotate_left
  · (intro w hSw; go_simp; first | done | with_reducible rfl)
  try simp only [Act.put, List.setIfInBounds_toArray, List.set_cons_zero, List.set_cons_succ]
  refine seqH_go (fun K hK => ?_)
  rw [if_pos (by rfl)]
  refine wpm_build1 (.const (.int .u8 1)) rfl 1 rfl ?_; intro g0 w3 hr3 hg3; have hg03 : W.grownBy w3 none := grown_trans (grown_drew (grown_refl _ _)) hg3
  refine hK.out _ _ (grown_up hg03) (fun _ => ?_)
  clear hK K
  try simp only [Act.put, List.setIfInBounds_toArray, List.set_cons_zero, List.set_cons_succ]
  refine seqH_go (fun K hK => ?_)
  rw [if_pos (by rfl)]
  refine wpm_build3 (.tmp 5) (.tmp 6) (.tmp 7) rfl (some ⟨g0, 0, none⟩) 1 1 (some ⟨w.heap.size, 0, none⟩) 32 32 (some ⟨w.heap.size + 1, 0, none⟩) 32 32 rfl rfl rfl ?_; intro g1 w4 hr4 hg4; have hg04 : W.grownBy w4 none := grown_trans hg03 hg4
  refine hK.out _ _ (grown_up hg04) (fun _ => ?_)
  clear hK K
  try simp only [Act.put, List.setIfInBounds_toArray, List.set_cons_zero, List.set_cons_succ]
  refine seqH_go (fun K hK => ?_)
  rw [if_pos (by rfl)]
  go_simp; refine (HS.out _ _ (brows_three (c := 3) hr4 (hr3.below ((Below.refl _ _).grown hg4 (Nat.le_refl _) (fun k hk => by cases hk))) (brow_num ((hg04.block _ hlf nofun).trans HF3.out)) (brow_num ((hg04.block _ hlk nofun).trans HK3.out)))).mono ?_; rintro e w5 ⟨rfl, hb5⟩; dsimp only; have hg05 : W.grownBy w5 none := grown_trans hg04 (grown_of_below hb5)
  refine hK.out _ _ (grown_up hg05) (fun _ => ?_)
  clear hK K
  try simp only [Act.put, List.setIfInBounds_toArray, List.set_cons_zero, List.set_cons_succ]
  refine seqH_go (fun K hK => ?_)
  rw [if_pos (by rfl)]
  refine wpm_store (.tmp 4) (.tmp 9) rfl (w.heap.size + 2) h rfl rfl 25 _ ((hg05.block _ hlt nofun).trans HT3.out) ?_; intro w6 h6 hg6
  refine hK.out _ _ (grown_trans (grown_up hg05) hg6) (fun _ => ?_)
  clear hK K
  try simp only [Act.put, List.setIfInBounds_toArray, List.set_cons_zero, List.set_cons_succ]
  refine seqH_nil (NoPanic.normal ?_)
  have hg06 : W.grownBy w6 (some (w.heap.size + 2)) := grown_trans (grown_up hg05) hg6
  have HB6 := Lib.hid (HB3.out.grown hg06 HB3.out.size (fun k hk => by cases hk; omega))
  have HG6 := Lib.hid h6
  have HZ := Lib.hid (show (Try.prog.info? 25).map (·.size) = some (rowB 32 h).size by rw [size32, rowB_size])
  clear hg03 hg04 hg05 hg06 hg3 hg4 hg6 h6 hr3 hr4 hb5
  go_wp2
  refine bodyPost_ret (results_cell_row rfl _ _ (w.heap.size + 2) 25 (rowB 32 h) (0, 0) _ rfl HG6.out Try.underlying25 rfl HZ.out) rfl ?_
  exact ⟨rfl, HB6.out⟩

set_option maxRecDepth 100000 in
set_option maxHeartbeats 1000000 in
theorem cut_any (n : Nat) (w : World) (h2 : 2 ≤ n) (hn : n ≤ 1000000000) :
    Calls Try.prog 22 #[.int .i64 (n : Int)] w fun e w' => e = .returned (.int .i64 (cutN n : Int)) ∧ w = w' := by
  go_enter Try.func22, Try.ntmps22
  go_wp2
  go_loopw [3] (fun i wr => ∃ j k : Nat, k = 2 ^ j ∧ k < n ∧ i = .int .i64 k ∧ wr = w) (fun i _ => n - (intOf i).toNat)
  case atStart => exact ⟨0, 1, rfl, by omega, rfl, rfl⟩
  case round =>
    obtain ⟨j, k, hj, hk, rfl, rfl⟩ := hrel
    have hpos : 0 < k := by rw [hj]; exact Nat.pow_pos (by decide)
    have HJ := Lib.hid hj
    clear hj
    have hk0 : (0 : Int) < (k : Int) := by omega
    have hk1 : (k : Int) < (n : Int) := by omega
    have hn9 : (n : Int) ≤ 1000000000 := by omega
    by_cases hlt : k < n - k
    · have hlt1 : (k : Int) < (n : Int) - (k : Int) := by omega
      go_wp2_with fail
      go_roundw
      case rel => exact ⟨j + 1, 2 * k, by rw [HJ.out, Nat.pow_succ]; omega, by omega, by congr 1; omega, trivial⟩
      case measure => simp [intOf]; omega
    · have hlt1 : ¬ (k : Int) < (n : Int) - (k : Int) := by omega
      have hc : cutN n = k := by rw [HJ.out]; exact cutN_of (by rw [← HJ.out]; exact hk) (by rw [Nat.pow_succ, ← HJ.out]; omega)
      have HC := Lib.hid hc
      clear hc
      go_wp2_with fail
      go_ret
      exact ⟨by rw [HC.out]; rfl, rfl⟩

end Go.Proofs.Ytnnllficjljjkaa
