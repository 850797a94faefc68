/-
  The walks of the register (package measure) and of the document's own (Fold, Extend of the reference).
-/
import Derived.Test.YtnnllficjljjkaaDoorAlive
import Derived.Test.YtnnllficjljjkaaDoorRefSha
import Derived.Test.YtnnllficjljjkaaDoorLawShaA
import Derived.Great.BuildSlice
import Derived.Test.YtnnllficjljjkaaDoorArgs
namespace Go.Proofs.YtnnllficjljjkaaDoor
open Go.RowKit
set_option linter.unusedVariables false
set_option linter.unusedSimpArgs false

/-- What a register has behind one more. -/
def extS (f g : Nat → BitVec 8) : Nat → BitVec 8 := sha ((List.range 32).map f ++ (List.range 32).map g)

theorem brow_reg {w : World} {g : Nat} {f : Nat → BitVec 8} {t : TypeId} {fr : Nat × Nat} (h : w.heap[g]? = some (.cells (rowB 32 f) t fr)) : BRow w (.slice (some ⟨g, 0, none⟩) 32 32) ((List.range 32).map f) := brow_num h

set_option maxRecDepth 100000 in
set_option maxHeartbeats 400000 in
theorem extend_any (b : Nat) (f g : Nat → BitVec 8) (w : World) (hb : w.heap[b]? = some (.cells (rowB 32 f) 36 (0, 0))) :
    Calls Tryd.prog 27 #[.pointer (some ⟨b, 0, none⟩), .agg (rowB 32 g)] w fun e w' => e = .returned (.tuple #[]) ∧ w'.heap[b]? = some (.cells (rowB 32 (extS f g)) 36 (0, 0)) ∧ w.grownBy w' (some b) := by
  have HB := Lib.hid hb
  have HLT := Lib.hid (Array.getElem?_eq_some_iff.1 hb).1
  clear hb
  go_enter Tryd.func27, Tryd.ntmps27
  go_wp2
  have HG := Lib.hid (show (w.alloc (.cells (rowB 32 g) 28)).heap[w.heap.size]? = some (.cells (rowB 32 g) 28 (0, 0)) from heap_alloc_new _ _)
  have HB2 := Lib.hid (show (w.alloc (.cells (rowB 32 g) 28)).heap[b]? = some (.cells (rowB 32 f) 36 (0, 0)) from (Below.heap_alloc _ _ _ HLT.out).trans HB.out)
  have HGR := Lib.hid (show w.grownBy (w.alloc (.cells (rowB 32 g) 28)) (some b) from grown_alloc (grown_refl _ _) _)
  have HLT2 := Lib.hid (show b < (w.alloc (.cells (rowB 32 g) 28)).heap.size by have := HLT.out; simp; omega)
  have HN := Lib.hid (show (Tryd.prog.info? 28).map (·.size) = some (rowB 32 (extS f g)).size by rw [size32, rowB_size])
  generalize w.alloc (.cells (rowB 32 g) 28) = W at *
  generalize w.heap.size = gb at *
  refine wp_region_plan (S := fun _ => True) [0, 1, 2, 3, 4, 5, 6, 7, 8, 9, 10] [true, true, true, true, true, true, false, false, true, true, false] (by kernel_rfl) (by kernel_rfl) trivial (fun _ => ?_)
  simp only [List.filterMap_cons, List.filterMap_nil, List.getElem?_toArray, List.getElem?_cons_zero, List.getElem?_cons_succ]
  refine seqH_take (v := ?_) (Or.inl ⟨by rfl, ?_⟩) ?_
  rotate_left
  · (intro w hSw; go_simp; first | done | with_reducible rfl)
  try simp only [Act.put, List.setIfInBounds_toArray, List.set_cons_zero, List.set_cons_succ]
  refine seqH_take (v := ?_) (Or.inl ⟨by rfl, ?_⟩) ?_
  rotate_left
  · (intro w hSw; go_simp; first | done | with_reducible rfl)
  try simp only [Act.put, List.setIfInBounds_toArray, List.set_cons_zero, List.set_cons_succ]
  refine seqH_take (v := ?_) (Or.inl ⟨by rfl, ?_⟩) ?_
  rotate_left
  · (intro w hSw; go_simp; first | done | with_reducible rfl)
  try simp only [Act.put, List.setIfInBounds_toArray, List.set_cons_zero, List.set_cons_succ]
  refine seqH_take (v := ?_) (Or.inl ⟨by rfl, ?_⟩) ?_
  rotate_left
  · (intro w hSw; go_simp; first | done | with_reducible rfl)
  try simp only [Act.put, List.setIfInBounds_toArray, List.set_cons_zero, List.set_cons_succ]
  refine seqH_take (v := ?_) (Or.inl ⟨by rfl, ?_⟩) ?_
  rotate_left
  · (intro w hSw; go_simp; first | done | with_reducible rfl)
  try simp only [Act.put, List.setIfInBounds_toArray, List.set_cons_zero, List.set_cons_succ]
  refine seqH_take (v := ?_) (Or.inl ⟨by rfl, ?_⟩) ?_
  rotate_left
  · (intro w hSw; go_simp; first | done | with_reducible rfl)
  try simp only [Act.put, List.setIfInBounds_toArray, List.set_cons_zero, List.set_cons_succ]
  refine seqH_go (fun K hK => ?_)
  rw [if_pos (by rfl)]
  go_simp
  refine hK.out _ _ (trivial) (fun _ => ?_)
  clear hK K
  try simp only [Act.put, List.setIfInBounds_toArray, List.set_cons_zero, List.set_cons_succ]
  refine seqH_go (fun K hK => ?_)
  rw [if_pos (by rfl)]
  go_simp
  refine (sum_two _ ((List.range 32).map f) ((List.range 32).map g) _ (brows_two (w := (W.alloc _).drew) (heap_alloc_new W _) ((brow_reg HB2.out).below ((Below.refl _ _).alloc (Nat.le_refl _) _).drew) ((brow_reg HG.out).below ((Below.refl _ _).alloc (Nat.le_refl _) _).drew)) (by simp)).mono ?_; rintro e w4 ⟨rfl, hbc⟩
  try dsimp only
  refine hK.out _ _ (trivial) (fun _ => ?_)
  clear hK K
  try simp only [Act.put, List.setIfInBounds_toArray, List.set_cons_zero, List.set_cons_succ]
  refine seqH_take (v := ?_) (Or.inl ⟨by rfl, ?_⟩) ?_
  rotate_left
  · (intro w hSw; go_simp; first | done | with_reducible rfl)
  try simp only [Act.put, List.setIfInBounds_toArray, List.set_cons_zero, List.set_cons_succ]
  refine seqH_take (v := ?_) (Or.inl ⟨by rfl, ?_⟩) ?_
  rotate_left
  · (intro w hSw; go_simp; first | done | with_reducible rfl)
  try simp only [Act.put, List.setIfInBounds_toArray, List.set_cons_zero, List.set_cons_succ]
  refine seqH_go (fun K hK => ?_)
  rw [if_pos (by rfl)]
  have hb4 : Below W.heap.size W w4 := below_keep ((Below.refl _ _).alloc (Nat.le_refl _) _).drew hbc; refine wp_store_row 28 (.tmp 13) (.tmp 11) rfl b (rowB 32 (extS f g)) rfl rfl 36 (rowB 32 f) ((hb4.block _ HLT2.out).trans HB2.out) HN.out (by rw [rowB_size, rowB_size]) (rowB_oneCell _ _) ?_
  refine hK.out _ _ (trivial) (fun _ => ?_)
  clear hK K
  try simp only [Act.put, List.setIfInBounds_toArray, List.set_cons_zero, List.set_cons_succ]
  refine seqH_nil (NoPanic.normal ?_)
  go_wp2
  go_end0
  refine ⟨rfl, heap_setRow_at ((hb4.block _ HLT2.out).trans HB2.out), ?_⟩
  exact grown_trans HGR.out (grown_setRow (grown_of_below hb4) (.inr rfl) _)

set_option maxHeartbeats 400000 in
theorem value_any (b : Nat) (f : Nat → BitVec 8) (w : World) (hb : w.heap[b]? = some (.cells (rowB 32 f) 36 (0, 0))) :
    Calls Tryd.prog 28 #[.pointer (some ⟨b, 0, none⟩)] w fun e w' => e = .returned (.agg (rowB 32 f)) ∧ Below w.heap.size w w' := by
  have HB := Lib.hid ((Below.heap_alloc w (.cells (row 32 fun _ => .int .u8 0) 28) b (Array.getElem?_eq_some_iff.1 hb).1).trans hb)
  have HSZ := Lib.hid (show (Tryd.prog.info? 28).map (·.size) = some (rowB 32 f).size by rw [size32, rowB_size])
  clear hb
  go_enter Tryd.func28, Tryd.ntmps28
  go_wp2_with (first
    | (with_reducible refine wpList_alloc_row rfl 28 rfl 32 _ info32 ?_)
    | ((with_reducible show wpList _ _ _ (⟨_, .load 28 _, _, _, _, _⟩ :: _) _ _); refine wpList_load_row rfl 28 _ rfl b rfl 36 (rowB 32 f) (0, 0) _ HB.out Tryd.underlying28 rfl HSZ.out ?_)
    | ((with_reducible show wpList _ _ _ (⟨_, .store 28 _ _, _, _, _, _⟩ :: _) _ _); refine wpList_store_rowTo rfl 28 _ _ rfl rfl w.heap.size (rowB 32 f) rfl rfl 28 _ (heap_alloc_new _ _) HSZ.out (by rw [row_size, rowB_size]) (rowB_oneCell _ _) ?_))
  refine bodyPost_ret (results_cell_row rfl _ _ w.heap.size 28 (rowB 32 f) (0, 0) _ rfl (heap_setRow_at (heap_alloc_new _ _)) Tryd.underlying28 rfl HSZ.out) rfl ?_
  exact ⟨rfl, below_setRow ((Below.refl _ _).alloc (Nat.le_refl _) _) (Nat.le_refl _) _⟩

/-- Bytes are appended, at an operation of a region. -/
theorem wp_append_B {o : Oper} {a : Act} {w : World} {K : Act → World → Prop} {Q : Exit → Act → World → Prop} (s x : Operand)
    (ho : o.op = .call { callee := .builtin .append, args := #[s, x], argTypes := #[25, 25] })
    (base : Nat) (v : Value) (xs l : List (BitVec 8)) (hs : a.eval s = v) (hown : OwnB w base v xs) (hx : BRow w (a.eval x) l)
    (hsz : xs.length + l.length ≤ 100000000000) (hbase : base ≤ w.heap.size)
    (h : ∀ v' w', OwnB w' base v' (xs ++ l) → w.grownBy w' v.ownBlock → K (a.put o.dst v') w') : o.wp Tryd.prog a w K Q := by
  obtain ⟨i0, hi0, hz0, hz1, hz2⟩ := info_parts info_u8
  obtain ⟨ad, c, e, hn, hp⟩ := hx
  cases ad with
  | none =>
    have hl : l = [] := by
      rcases Nat.eq_zero_or_pos l.length with h0 | h0
      · exact List.eq_nil_of_length_eq_zero h0
      · obtain ⟨_, _, hc, _⟩ := hp h0; cases hc
    subst hl
    rw [hn rfl] at e
    have hrun := run_append_owned_none (P := Tryd.prog) (w := w) base 25 o.type 5 i0 1 Tryd.underlying25 hi0 v _ _ hown
    unfold Oper.wp
    simp only [execOp, ho, resolve, invoke, builtin, Sem.run_bind, Sem.run_pure, Result.andThen_ok, List.map_toArray, List.map_cons, List.map_nil, hs, e]
    have hrun2 : (Builtin.append_ #[25, 25] o.type #[v, .slice none 0 0]).run Tryd.prog w = .ok v w := hrun
    simp only [List.length_nil, hrun2, Result.andThen_ok]
    exact h v w (by rw [List.append_nil]; exact hown) (grown_refl _ _)
  | some ad =>
    refine wp_append_own w s x 25 ho base 5 i0 _ 1 1 Tryd.underlying25 hi0 hz0 hz1 hz2 rfl (by decide) v xs.length (encB xs) hs hown ad l.length c (encB l) e (by simp [encB]) ?_ ?_ (by unfold maxLen; omega) (by omega) hbase ?_
    · intro j u hj
      have hjl : j < l.length := by
        rcases Nat.lt_or_ge j l.length with h | h
        · exact h
        · rw [List.getElem?_eq_none (by simp [encB]; exact h)] at hj; cases hj
      obtain ⟨b, off, hc, _, hcell⟩ := hp (by omega)
      cases hc
      rw [Addr.add_mid, hcell j hjl]
      simpa [encB, hjl] using hj
    · intro u hu
      obtain ⟨y, _, rfl⟩ := List.mem_map.1 hu
      rfl
    · intro v' w' h1 h2 _
      refine h v' w' ?_ h2
      unfold OwnB encB
      rw [List.length_append, List.map_append]
      exact h1

set_option maxRecDepth 100000 in
set_option maxHeartbeats 400000 in
theorem extend16_any (f g : Nat → BitVec 8) (w : World) (hk : KAt w) :
    Calls Tryd.prog 55 #[.agg (rowB 32 f), .agg (rowB 32 g)] w fun e w' => e = .returned (.agg (rowB 32 (extS f g))) ∧ Below w.heap.size w w' := by
  have HK := Lib.hid hk
  have HSZ := Lib.hid (show (Tryd.prog.info? 28).map (·.size) = some (rowB 32 (extS f g)).size by rw [size32, rowB_size])
  clear hk
  go_enter Tryd.func55, Tryd.ntmps55
  go_wp2_with (with_reducible refine wpList_alloc_row rfl 28 rfl 32 _ info32 ?_)
  have HW := Lib.hid (show Below w.heap.size w (((w.alloc (.cells (rowB 32 f) 28)).alloc (.cells (rowB 32 g) 28)).alloc (.cells (row 32 fun _ => .int .u8 0) 28)) from
    below_allocS (below_allocS (below_allocS (Below.refl _ _) _) _) _)
  have HF := Lib.hid (show (((w.alloc (.cells (rowB 32 f) 28)).alloc (.cells (rowB 32 g) 28)).alloc (.cells (row 32 fun _ => .int .u8 0) 28)).heap[w.heap.size]? = some (.cells (rowB 32 f) 28 (0, 0)) from
    (Below.heap_alloc _ _ _ (by simp; omega)).trans (heap_alloc2_old _ _ _))
  have HG := Lib.hid (show (((w.alloc (.cells (rowB 32 f) 28)).alloc (.cells (rowB 32 g) 28)).alloc (.cells (row 32 fun _ => .int .u8 0) 28)).heap[w.heap.size + 1]? = some (.cells (rowB 32 g) 28 (0, 0)) from
    (Below.heap_alloc _ _ _ (by simp)).trans (heap_alloc2_new _ _ _))
  have HR := Lib.hid (show (((w.alloc (.cells (rowB 32 f) 28)).alloc (.cells (rowB 32 g) 28)).alloc (.cells (row 32 fun _ => .int .u8 0) 28)).heap[w.heap.size + 2]? = some (.cells (row 32 fun _ => .int .u8 0) 28 (0, 0)) from by
    have := heap_alloc_new ((w.alloc (.cells (rowB 32 f) 28)).alloc (.cells (rowB 32 g) 28)) (.cells (row 32 fun _ => .int .u8 0) 28)
    simpa using this)
  have HLT := Lib.hid (show w.heap.size + 2 < (((w.alloc (.cells (rowB 32 f) 28)).alloc (.cells (rowB 32 g) 28)).alloc (.cells (row 32 fun _ => .int .u8 0) 28)).heap.size by simp)
  generalize ((w.alloc (.cells (rowB 32 f) 28)).alloc (.cells (rowB 32 g) 28)).alloc (.cells (row 32 fun _ => .int .u8 0) 28) = W at *
  refine wp_region_plan (S := fun _ => True) [0, 2, 1, 3, 4, 5] [true, true, false, false, false, false] (by kernel_rfl) (by kernel_rfl) trivial (fun _ => ?_)
  simp only [List.filterMap_cons, List.filterMap_nil, List.getElem?_toArray, List.getElem?_cons_zero, List.getElem?_cons_succ]
  refine seqH_take (v := ?_) (Or.inl ⟨by rfl, ?_⟩) ?_
  rotate_left
  · (intro w hSw; go_simp; first | done | with_reducible rfl)
  try simp only [Act.put, List.setIfInBounds_toArray, List.set_cons_zero, List.set_cons_succ]
  refine seqH_take (v := ?_) (Or.inl ⟨by rfl, ?_⟩) ?_
  rotate_left
  · (intro w hSw; go_simp; first | done | with_reducible rfl)
  try simp only [Act.put, List.setIfInBounds_toArray, List.set_cons_zero, List.set_cons_succ]
  refine seqH_go (fun K hK => ?_)
  rw [if_pos (by rfl)]
  refine wp_append_B (.const (.slice none 0 0)) (.tmp 5) rfl W.heap.size _ [] ((List.range 32).map f) rfl (World.ownsRow_nil _ _ _ _) ((brow_reg HF.out).below (Below.refl _ _).drew) (by simp) (Nat.le_refl _) ?_; intro v1 w1 hown1 hg1; rw [List.nil_append] at hown1; have hb1 : Below W.heap.size W w1 := (Below.refl _ _).drew.grown hg1 (Nat.le_refl _) (fun k hk => by cases hk); have HO1 := Lib.hid hown1; have HL1 := Lib.hid hown1.lt; clear hown1 hg1
  refine hK.out _ _ (trivial) (fun _ => ?_)
  clear hK K
  try simp only [Act.put, List.setIfInBounds_toArray, List.set_cons_zero, List.set_cons_succ]
  refine seqH_go (fun K hK => ?_)
  rw [if_pos (by rfl)]
  refine wp_append_B (.tmp 6) (.tmp 7) rfl W.heap.size v1 ((List.range 32).map f) ((List.range 32).map g) rfl HO1.out ((brow_reg HG.out).below hb1) (by simp) hb1.size ?_; intro v2 w2 hown2 hg2; have hb2 : Below W.heap.size W w2 := hb1.grown hg2 hb1.size (fun k hk => (HL1.out k hk).1); have HO2 := Lib.hid hown2; clear hown2 hg2
  refine hK.out _ _ (trivial) (fun _ => ?_)
  clear hK K
  try simp only [Act.put, List.setIfInBounds_toArray, List.set_cons_zero, List.set_cons_succ]
  refine seqH_go (fun K hK => ?_)
  rw [if_pos (by rfl)]
  go_simp
  refine (refSha_any _ ((List.range 32).map f ++ (List.range 32).map g) _ HO2.out.brow (by simp) (HK.out.below (HW.out.trans (hb2.mono HW.out.size)))).mono ?_; rintro e w3 ⟨rfl, hbc⟩
  try dsimp only
  refine hK.out _ _ (trivial) (fun _ => ?_)
  clear hK K
  try simp only [Act.put, List.setIfInBounds_toArray, List.set_cons_zero, List.set_cons_succ]
  refine seqH_go (fun K hK => ?_)
  rw [if_pos (by rfl)]
  have hb3 : Below W.heap.size W w3 := below_keep hb2 hbc; refine wp_store_row 28 (.tmp 4) (.tmp 9) rfl (w.heap.size + 2) (rowB 32 (extS f g)) rfl rfl 28 (row 32 fun _ => .int .u8 0) ((hb3.block _ HLT.out).trans HR.out) HSZ.out (by rw [rowB_size, row_size]) (rowB_oneCell _ _) ?_
  refine hK.out _ _ (trivial) (fun _ => ?_)
  clear hK K
  try simp only [Act.put, List.setIfInBounds_toArray, List.set_cons_zero, List.set_cons_succ]
  refine seqH_nil (NoPanic.normal ?_)
  go_wp2
  refine bodyPost_ret (results_cell_row rfl _ _ (w.heap.size + 2) 28 (rowB 32 (extS f g)) (0, 0) _ rfl (heap_setRow_at ((hb3.block _ HLT.out).trans HR.out)) Tryd.underlying28 rfl HSZ.out) rfl ?_
  exact ⟨rfl, below_setRow (HW.out.trans (hb3.mono HW.out.size)) (by omega) _⟩

def foldS (l : List (Nat → BitVec 8)) : Nat → BitVec 8 := l.foldl extS fun _ => 0
theorem foldS_snoc (l : List (Nat → BitVec 8)) {k : Nat} (h : k < l.length) : foldS (l.take (k + 1)) = extS (foldS (l.take k)) l[k] := by
  unfold foldS; rw [List.take_succ_eq_append_getElem h, List.foldl_append]; rfl
theorem info36 : (Tryd.prog.info? 36).map (fun i => (i.zero, i.size)) = some (some (.agg (row 32 fun _ => .int .u8 0)), 32) := by kernel_rfl
theorem cell_of_heap {w w' : World} {b o : Nat} (h : w'.heap[b]? = w.heap[b]?) : w'.cell? ⟨b, o, none⟩ = w.cell? ⟨b, o, none⟩ := by
  unfold World.cell?
  simp only [h]
theorem NRow.range {w : World} {b off k : Nat} {f : Nat → BitVec 8} (h : ∀ j, j < 32 → w.cell? ⟨b, off + k * 32 + j, none⟩ = some (.int .u8 (B8 (f j)))) : w.rangeAt b (off + k * 32) (rowB 32 f).toList := fun j v hv => by
  have hj : j < 32 := by
    rcases Nat.lt_or_ge j 32 with h | h
    · exact h
    · rw [List.getElem?_eq_none (by simp [rowB_size]; exact h)] at hv; cases hv
  rw [h j hj]
  simpa [rowB, row, hj] using hv

set_option maxRecDepth 100000 in
set_option maxHeartbeats 400000 in
theorem fold_any (v : Value) (l : List (Nat → BitVec 8)) (w : World) (hv : NRow w v l) (hl : l.length ≤ 1000000) :
    Calls Tryd.prog 30 #[v] w fun e w' => e = .returned (.agg (rowB 32 (foldS l))) ∧ Below w.heap.size w w' := by
  obtain ⟨a, c, rfl, _, hp⟩ := hv
  have HP := Lib.hid hp
  clear hp
  have hll : (l.length : Int) ≤ 1000000 := by omega
  go_enter Tryd.func30, Tryd.ntmps30
  go_wp2_with (first
    | (with_reducible refine wpList_alloc_row rfl 28 rfl 32 _ info32 ?_)
    | (with_reducible refine wpList_alloc_row rfl 36 rfl 32 _ info36 ?_))
  have HB := Lib.hid (show Below w.heap.size w ((w.alloc (.cells (row 32 fun _ => .int .u8 0) 28)).alloc (.cells (row 32 fun _ => .int .u8 0) 36)) from below_allocS (below_allocS (Below.refl _ _) _) _)
  have HR := Lib.hid (show ((w.alloc (.cells (row 32 fun _ => .int .u8 0) 28)).alloc (.cells (row 32 fun _ => .int .u8 0) 36)).heap[w.heap.size]? = some (.cells (row 32 fun _ => .int .u8 0) 28 (0, 0)) from heap_alloc2_old _ _ _)
  have HG := Lib.hid (show ((w.alloc (.cells (row 32 fun _ => .int .u8 0) 28)).alloc (.cells (row 32 fun _ => .int .u8 0) 36)).heap[w.heap.size + 1]? = some (.cells (rowB 32 (foldS (l.take 0))) 36 (0, 0)) from heap_alloc2_new _ _ _)
  generalize (w.alloc (.cells (row 32 fun _ => .int .u8 0) 28)).alloc (.cells (row 32 fun _ => .int .u8 0) 36) = W at *
  go_loopw [8] (fun i wr => ∃ k : Nat, k ≤ l.length ∧ i = .int .i64 k ∧ wr.heap[w.heap.size]? = some (.cells (row 32 fun _ => .int .u8 0) 28 (0, 0)) ∧ wr.heap[w.heap.size + 1]? = some (.cells (rowB 32 (foldS (l.take k))) 36 (0, 0)) ∧ Below w.heap.size w wr) (fun i _ => l.length - (intOf i).toNat)
  case atStart => exact ⟨0, Nat.zero_le _, rfl, HR.out, HG.out, HB.out⟩
  case round =>
    clear HR HG HB
    obtain ⟨k, hk, rfl, hr, hg, hb⟩ := hrel
    have HR := Lib.hid hr
    have HG := Lib.hid hg
    have HB := Lib.hid hb
    clear hr hg hb
    by_cases hlt : k < l.length
    · obtain ⟨b, off, ha, hbl, hcells⟩ := HP.out (by omega)
      have HRG := Lib.hid (NRow.range fun j hj => (HB.out.cell (p := ⟨b, off + k * 32 + j, none⟩) hbl).trans (hcells k hlt j hj))
      have HF := Lib.hid (foldS_snoc l hlt)
      rw [ha]
      clear hcells
      generalize l[k] = f at *
      have hk0 : (0 : Int) ≤ (k : Int) := by omega
      have hk1 : (k : Int) < (l.length : Int) := by omega
      have HSZ := Lib.hid (show (Tryd.prog.info? 28).map (·.size) = some (rowB 32 f).size by rw [size32, rowB_size])
      have HSL := Lib.hid (show (Tryd.prog.info? 28).map (·.size) = some (rowB 32 f).toList.length by rw [size32]; simp [rowB_size])
      go_wp2_with (first
        | ((with_reducible show wpList _ _ _ (⟨_, .load 28 (.tmp 10), _, _, _, _⟩ :: _) _ _); go_loud (refine wpList_load_mid rfl 28 _ rfl b (off + k * 32) rfl (rowB 32 f).toList _ HRG.out Tryd.underlying28 rfl HSL.out ?_); rw [rowB_back])
        | (with_reducible refine wpList_alloc_row rfl 28 rfl 32 _ info32 ?_)
        | ((with_reducible show wpList _ _ _ (⟨_, .store 28 _ _, _, _, _, _⟩ :: _) _ _); go_loud (refine wpList_store_rowTo rfl 28 _ _ rfl rfl _ (rowB 32 f) rfl rfl 28 _ (heap_alloc_new _ _) HSZ.out (by rw [row_size, rowB_size]) (rowB_oneCell _ _) ?_))
        | ((with_reducible show wpList _ _ _ (⟨_, .load 28 (.tmp 5), _, _, _, _⟩ :: _) _ _); go_loud (refine wpList_load_row rfl 28 _ rfl wr.heap.size rfl 28 (rowB 32 f) (0, 0) _ (heap_setRow_at (heap_alloc_new _ _)) Tryd.underlying28 rfl HSZ.out ?_)))
      have hlt1 := (Array.getElem?_eq_some_iff.1 HG.out).1
      refine (extend_any (w.heap.size + 1) (foldS (l.take k)) f _ ((heap_setRow_far (by omega)).trans ((Below.heap_alloc _ _ _ hlt1).trans HG.out))).mono ?_
      rintro e w2 ⟨rfl, hg2, hgr2⟩
      have HG2 := Lib.hid hg2
      have HR2 := Lib.hid ((hgr2.block w.heap.size (by simp [World.setRow]; omega) (by intro e; injection e with e; omega)).trans ((heap_setRow_far (by omega)).trans ((Below.heap_alloc _ _ _ (by omega)).trans HR.out)))
      have HB2 := Lib.hid (show Below w.heap.size w w2 from (below_setRow (below_allocS HB.out (.cells (row 32 fun _ => .int .u8 0) 28)) HB.out.size (rowB 32 f)).grown hgr2 (by have := HB.out.size; simp [World.setRow]; omega) (fun k hk => by cases hk; omega))
      clear hg2 hgr2
      go_wp2
      go_roundw
      case rel => exact ⟨k + 1, by omega, by go_num, HR2.out, by rw [HF.out]; exact HG2.out, HB2.out⟩
      case measure => simp [intOf]; omega
    · have HE := Lib.hid (show foldS (l.take k) = foldS l by rw [List.take_of_length_le (by omega)])
      have HSZ := Lib.hid (show (Tryd.prog.info? 28).map (·.size) = some (rowB 32 (foldS l)).size by rw [size32, rowB_size])
      go_wp2_with (first
        | (go_at_call 28; refine (value_any (w.heap.size + 1) (foldS (l.take k)) _ HG.out).mono ?_; rintro e w2 ⟨rfl, hb2⟩; rw [HE.out])
        | ((with_reducible show wpList _ _ _ (⟨_, .store 28 _ _, _, _, _, _⟩ :: _) _ _); go_loud (refine wpList_store_rowTo rfl 28 _ _ rfl rfl w.heap.size (rowB 32 (foldS l)) rfl rfl 28 _ ((hb2.block _ (Array.getElem?_eq_some_iff.1 HR.out).1).trans HR.out) HSZ.out (by rw [row_size, rowB_size]) (rowB_oneCell _ _) ?_)))
      refine bodyPost_ret (results_cell_row rfl _ _ w.heap.size 28 (rowB 32 (foldS l)) (0, 0) _ rfl (heap_setRow_at ((hb2.block _ (Array.getElem?_eq_some_iff.1 HR.out).1).trans HR.out)) Tryd.underlying28 rfl HSZ.out) rfl ?_
      exact ⟨rfl, below_setRow (below_keep HB.out hb2) (Nat.le_refl _) _⟩

set_option maxRecDepth 100000 in
set_option maxHeartbeats 400000 in
theorem fold16_any (v : Value) (l : List (Nat → BitVec 8)) (w : World) (hv : NRow w v l) (hl : l.length ≤ 1000000) (hka : KAt w) :
    Calls Tryd.prog 29 #[v] w fun e w' => e = .returned (.agg (rowB 32 (foldS l))) ∧ Below w.heap.size w w' := by
  obtain ⟨a, c, rfl, _, hp⟩ := hv
  have HP := Lib.hid hp
  have HK := Lib.hid hka
  clear hp hka
  have hll : (l.length : Int) ≤ 1000000 := by omega
  go_enter Tryd.func29, Tryd.ntmps29
  go_wp2_with (with_reducible refine wpList_alloc_row rfl 28 rfl 32 _ info32 ?_)
  have HB := Lib.hid (show Below w.heap.size w ((w.alloc (.cells (row 32 fun _ => .int .u8 0) 28)).alloc (.cells (row 32 fun _ => .int .u8 0) 28)) from below_allocS (below_allocS (Below.refl _ _) _) _)
  have HR := Lib.hid (show ((w.alloc (.cells (row 32 fun _ => .int .u8 0) 28)).alloc (.cells (row 32 fun _ => .int .u8 0) 28)).heap[w.heap.size]? = some (.cells (row 32 fun _ => .int .u8 0) 28 (0, 0)) from heap_alloc2_old _ _ _)
  have HG := Lib.hid (show ((w.alloc (.cells (row 32 fun _ => .int .u8 0) 28)).alloc (.cells (row 32 fun _ => .int .u8 0) 28)).heap[w.heap.size + 1]? = some (.cells (rowB 32 (foldS (l.take 0))) 28 (0, 0)) from heap_alloc2_new _ _ _)
  generalize (w.alloc (.cells (row 32 fun _ => .int .u8 0) 28)).alloc (.cells (row 32 fun _ => .int .u8 0) 28) = W at *
  go_loopw [4] (fun i wr => ∃ k : Nat, k ≤ l.length ∧ i = .int .i64 k ∧ wr.heap[w.heap.size]? = some (.cells (row 32 fun _ => .int .u8 0) 28 (0, 0)) ∧ wr.heap[w.heap.size + 1]? = some (.cells (rowB 32 (foldS (l.take k))) 28 (0, 0)) ∧ Below w.heap.size w wr) (fun i _ => l.length - (intOf i).toNat)
  case atStart => exact ⟨0, Nat.zero_le _, rfl, HR.out, HG.out, HB.out⟩
  case round =>
    clear HR HG HB
    obtain ⟨k, hk, rfl, hr, hg, hb⟩ := hrel
    have HR := Lib.hid hr
    have HG := Lib.hid hg
    have HB := Lib.hid hb
    clear hr hg hb
    by_cases hlt : k < l.length
    · obtain ⟨b, off, ha, hbl, hcells⟩ := HP.out (by omega)
      have HRG := Lib.hid (NRow.range fun j hj => (HB.out.cell (p := ⟨b, off + k * 32 + j, none⟩) hbl).trans (hcells k hlt j hj))
      have HF := Lib.hid (foldS_snoc l hlt)
      rw [ha]
      clear hcells
      generalize l[k] = f at *
      have hk0 : (0 : Int) ≤ (k : Int) := by omega
      have hk1 : (k : Int) < (l.length : Int) := by omega
      have HSL := Lib.hid (show (Tryd.prog.info? 28).map (·.size) = some (rowB 32 f).toList.length by rw [size32]; simp [rowB_size])
      have HSG := Lib.hid (show (Tryd.prog.info? 28).map (·.size) = some (rowB 32 (foldS (l.take k))).toList.length by rw [size32]; simp [rowB_size])
      have HSE := Lib.hid (show (Tryd.prog.info? 28).map (·.size) = some (rowB 32 (extS (foldS (l.take k)) f)).size by rw [size32, rowB_size])
      go_wp2
      have hrf : ∀ w', wr.grownBy w' (some (w.heap.size + 1)) → w'.rangeAt b (off + k * 32) (rowB 32 f).toList := fun w' h j v hv => by
        have hbs : b < wr.heap.size := Nat.lt_of_lt_of_le hbl HB.out.size
        have hne : some b ≠ some (w.heap.size + 1) := by intro e; injection e with e; omega
        have h1 := HRG.out j v hv
        rw [← h1]
        exact cell_of_heap (h.block b hbs hne)
      have hu := Tryd.underlying28
      have hlt1 := (Array.getElem?_eq_some_iff.1 HG.out).1
      refine wp_region_plan (S := fun w' => wr.grownBy w' (some (w.heap.size + 1))) [1, 2, 3, 4, 0, 5, 6] [true, true, true, true, false, false, false] (by kernel_rfl) (by kernel_rfl) (grown_drew (grown_refl _ _)) (fun _ => ?_)
      simp only [List.filterMap_cons, List.filterMap_nil, List.getElem?_toArray, List.getElem?_cons_zero, List.getElem?_cons_succ]
      refine seqH_take (v := ?_) (Or.inl ⟨by rfl, ?_⟩) ?_
      rotate_left
      · (intro w hSw; go_simp; first | done | with_reducible rfl)
      try simp only [Act.put, List.setIfInBounds_toArray, List.set_cons_zero, List.set_cons_succ]
      refine seqH_take (v := ?_) (Or.inl ⟨by rfl, ?_⟩) ?_
      rotate_left
      · (intro w hSw; go_simp; first | done | with_reducible rfl)
      try simp only [Act.put, List.setIfInBounds_toArray, List.set_cons_zero, List.set_cons_succ]
      refine seqH_take (v := ?_) (Or.inl ⟨by rfl, ?_⟩) ?_
      rotate_left
      · (intro w hSw; go_simp; first | done | with_reducible rfl)
      try simp only [Act.put, List.setIfInBounds_toArray, List.set_cons_zero, List.set_cons_succ]
      refine seqH_take (yieldsIf_load_mid (by rfl) _ _ rfl _ _ rfl _ _ (fun w hw => hrf w hw) hu rfl HSL.out) ?_
      try simp only [Act.put, List.setIfInBounds_toArray, List.set_cons_zero, List.set_cons_succ, rowB_back]
      refine seqH_go (fun K hK => ?_)
      rw [if_pos (by rfl)]
      refine wp_load_mid 28 (.tmp 3) rfl (w.heap.size + 1) 0 rfl (rowB 32 (foldS (l.take k))).toList _ (range_num HG.out _ (Below.refl _ _).drew) hu rfl HSG.out ?_; rw [rowB_back]
      refine hK.out _ _ (grown_drew (grown_refl _ _)) (fun _ => ?_)
      clear hK K
      try simp only [Act.put, List.setIfInBounds_toArray, List.set_cons_zero, List.set_cons_succ]
      refine seqH_go (fun K hK => ?_)
      rw [if_pos (by rfl)]
      go_simp
      refine (extend16_any (foldS (l.take k)) f _ (HK.out.below (HB.out.drew))).mono ?_; rintro e w2 ⟨rfl, hbc⟩; have hb2 : Below wr.heap.size wr w2 := (Below.refl _ _).drew.trans hbc
      try dsimp only
      refine hK.out _ _ (grown_of_below hb2) (fun _ => ?_)
      clear hK K
      try simp only [Act.put, List.setIfInBounds_toArray, List.set_cons_zero, List.set_cons_succ]
      refine seqH_go (fun K hK => ?_)
      rw [if_pos (by rfl)]
      refine wp_store_row 28 (.tmp 3) (.tmp 16) rfl (w.heap.size + 1) (rowB 32 (extS (foldS (l.take k)) f)) rfl rfl 28 (rowB 32 (foldS (l.take k))) ((hb2.block _ hlt1).trans HG.out) HSE.out (by rw [rowB_size, rowB_size]) (rowB_oneCell _ _) ?_
      refine hK.out _ _ (grown_setRow (grown_of_below hb2) (.inr rfl) _) (fun _ => ?_)
      clear hK K
      try simp only [Act.put, List.setIfInBounds_toArray, List.set_cons_zero, List.set_cons_succ]
      refine seqH_nil (NoPanic.normal ?_)
      go_wp2
      go_roundw
      case rel => exact ⟨k + 1, by omega, by go_num, (heap_setRow_far (by omega)).trans ((hb2.block _ (by omega)).trans HR.out), by rw [HF.out]; exact heap_setRow_at ((hb2.block _ hlt1).trans HG.out), below_setRow (HB.out.trans (hb2.mono HB.out.size)) (by omega) _⟩
      case measure => simp [intOf]; omega
    · have HE := Lib.hid (show foldS (l.take k) = foldS l by rw [List.take_of_length_le (by omega)])
      have HSZ := Lib.hid (show (Tryd.prog.info? 28).map (·.size) = some (rowB 32 (foldS l)).size by rw [size32, rowB_size])
      have HG2 := HG
      rw [HE.out] at HG2
      go_wp2_with (first
        | ((with_reducible show wpList _ _ _ (⟨_, .load 28 _, _, _, _, _⟩ :: _) _ _); go_loud (refine wpList_load_row rfl 28 _ rfl (w.heap.size + 1) rfl 28 (rowB 32 (foldS l)) (0, 0) _ HG2.out Tryd.underlying28 rfl HSZ.out ?_))
        | ((with_reducible show wpList _ _ _ (⟨_, .store 28 _ _, _, _, _, _⟩ :: _) _ _); go_loud (refine wpList_store_rowTo rfl 28 _ _ rfl rfl w.heap.size (rowB 32 (foldS l)) rfl rfl 28 _ HR.out HSZ.out (by rw [row_size, rowB_size]) (rowB_oneCell _ _) ?_)))
      refine bodyPost_ret (results_cell_row rfl _ _ w.heap.size 28 (rowB 32 (foldS l)) (0, 0) _ rfl (heap_setRow_at HR.out) Tryd.underlying28 rfl HSZ.out) rfl ?_
      exact ⟨rfl, below_setRow HB.out (Nat.le_refl _) _⟩

end Go.Proofs.YtnnllficjljjkaaDoor
