/-
  The walk of the law MeasureGoes.
-/
import Derived.Test.YtnnllficjljjkaaDoorLawMeas
import Derived.Test.YtnnllficjljjkaaDoorOwnN
namespace Go.Proofs.YtnnllficjljjkaaDoor
open Go.RowKit
set_option linter.unusedVariables false
set_option linter.unusedSimpArgs false

theorem yieldsIf_sameNum {ops : Array Oper} {S : World → Prop} {op : Oper} {a : Act} (hw : Region.wanted op (yielded ops a.tmps) = true) (x y : Operand) (ho : op.op = .binOp .eql 28 x y 28) (f : Nat → BitVec 8)
    (hx : a.eval x = .agg (rowB 32 f)) (hy : a.eval y = .agg (rowB 32 f)) : YieldsIf Tryd.prog ops S op (.bool true) a :=
  .inl ⟨hw, fun w _ => by
    have hg : (eqGuard .eql 28 x y (.agg (rowB 32 f)) (.agg (rowB 32 f))).run Tryd.prog w = .ok () w := run_eqGuard_agg _ _ _ _ _ _ _ (by kernel_rfl)
    unfold execOp
    simp only [ho, hx, hy, Sem.run_bind, hg, eqlNum, eqB_self, Result.andThen_ok, Sem.run_pure]⟩

theorem yieldsIf_sameNumNe {ops : Array Oper} {S : World → Prop} {op : Oper} {a : Act} (hw : Region.wanted op (yielded ops a.tmps) = true) (x y : Operand) (ho : op.op = .binOp .neq 28 x y 28) (f : Nat → BitVec 8)
    (hx : a.eval x = .agg (rowB 32 f)) (hy : a.eval y = .agg (rowB 32 f)) : YieldsIf Tryd.prog ops S op (.bool false) a :=
  .inl ⟨hw, fun w _ => by
    have hg : (eqGuard .neq 28 x y (.agg (rowB 32 f)) (.agg (rowB 32 f))).run Tryd.prog w = .ok () w := run_eqGuard_agg _ _ _ _ _ _ _ (by kernel_rfl)
    unfold execOp
    simp only [ho, hx, hy, Sem.run_bind, hg, neqNum, eqB_self, Bool.not_true, Result.andThen_ok, Sem.run_pure]⟩

theorem foldS_end (l : List (Nat → BitVec 8)) (x : Nat → BitVec 8) : foldS (l ++ [x]) = extS (foldS l) x := by
  unfold foldS; rw [List.foldl_append]; rfl

set_option maxRecDepth 100000 in
set_option maxHeartbeats 1000000 in
theorem measureGoes_in (A : Option Addr) (c : Nat) (l : List (Nat → BitVec 8)) (x : Nat → BitVec 8) (w : World) (hv : NRow w (.slice A l.length c) l) (hl : l.length ≤ 60) (hk : KAt w) :
    Calls Tryd.prog 8 #[.slice A l.length c, .agg (rowB 32 x)] w fun e w' => e = .returned (.bool true) ∧ Below w.heap.size w w' := by
  have HV := Lib.hid hv
  have HK := Lib.hid hk
  have HL := Lib.hid hl
  have heq := eqlNum
  have hself := eqB_self
  have hz1 : ((60 : Int) < (l.length : Int)) = False := eq_false (by omega)
  have HSZ := Lib.hid (show (Tryd.prog.info? 28).map (·.size) = some (rowB 32 (foldS l)).size by rw [size32, rowB_size])
  have HLL := Lib.hid (show l.length ≤ 1000000 by omega)
  clear hk hv hl
  go_enter Tryd.func8, Tryd.ntmps8
  go_wp2_with (first
    | (go_at_call 26; refine (alive24_any _ (HK.out.below (below_allocS (Below.refl _ _) _))).mono ?_; rintro e w1 ⟨rfl, hb1⟩)
    | (go_at_call 30; refine (fold_any _ l _ (HV.out.below (below_keep (below_allocS (Below.refl _ _) _) hb1)) HLL.out).mono ?_; rintro e w2 ⟨rfl, hb2⟩)
    | (with_reducible refine wpList_alloc_row rfl 28 rfl 32 _ info32 ?_)
    | ((with_reducible show wpList _ _ _ (⟨_, .store 28 _ _, _, _, _, _⟩ :: _) _ _); refine wpList_store_rowTo rfl 28 _ _ rfl rfl _ (rowB 32 (foldS l)) rfl rfl 28 _ (heap_alloc_new _ _) HSZ.out (by rw [row_size, rowB_size]) (rowB_oneCell _ _) ?_))
  have hb3 := below_keep (below_keep (below_allocS (Below.refl w.heap.size w) (.cells (rowB 32 x) 28)) hb1) hb2
  have hx2 : w2.heap[w.heap.size]? = some (.cells (rowB 32 x) 28 (0, 0)) := (hb2.block _ (Nat.lt_of_lt_of_le (by simp) hb1.size)).trans ((hb1.block _ (by simp)).trans (heap_alloc_new _ _))
  have hlt2 := (Array.getElem?_eq_some_iff.1 hx2).1
  have HW := Lib.hid (show Below w.heap.size w ((w2.alloc (.cells (row 32 fun _ => .int .u8 0) 28)).setRow w2.heap.size (rowB 32 (foldS l))) from
    below_setRow (below_allocS hb3 _) hb3.size _)
  have HR := Lib.hid (show ((w2.alloc (.cells (row 32 fun _ => .int .u8 0) 28)).setRow w2.heap.size (rowB 32 (foldS l))).heap[w2.heap.size]? = some (.cells (rowB 32 (foldS l)) 28 (0, 0)) from heap_setRow_at (heap_alloc_new _ _))
  have HX := Lib.hid (show ((w2.alloc (.cells (row 32 fun _ => .int .u8 0) 28)).setRow w2.heap.size (rowB 32 (foldS l))).heap[w.heap.size]? = some (.cells (rowB 32 x) 28 (0, 0)) from
    (heap_setRow_far (by omega)).trans ((Below.heap_alloc _ _ _ hlt2).trans hx2))
  clear hb1 hb2 hb3 hx2 hlt2 HSZ
  simp only [Act.put, List.setIfInBounds_toArray, List.set_cons_zero, List.set_cons_succ]
  generalize (w2.alloc (.cells (row 32 fun _ => .int .u8 0) 28)).setRow w2.heap.size (rowB 32 (foldS l)) = W at *
  generalize w2.heap.size = gf at *
  have HV2 := Lib.hid (HV.out.below HW.out)
  have hrg := range_num HX.out
  have hu := Tryd.underlying28
  have hi : (Tryd.prog.info? 28).map (·.size) = some (rowB 32 x).toList.length := by rw [size32]; simp [rowB_size]
  refine Code.wp_mono (Q := fun e a' w' => e = Exit.normal ∧ ∃ (u19 u20 u21 u22 u23 u24 : Value) (g : Nat), a' = { tmps := #[.slice A l.length c, .agg (rowB 32 x), undef, .pointer (some ⟨w.heap.size, 0, none⟩), .bool false, .bool true, .pointer (some ⟨gf, 0, none⟩), .pointer (some ⟨g, 0, none⟩), .bool true, .bool true, .bool false, .bool false, .slice A l.length c, .int .i64 (l.length : Int), .bool false, .bool false, undef, .slice A l.length c, .agg (rowB 32 (foldS l)), u19, u20, u21, u22, u23, u24, undef, undef, undef, undef, undef, undef, undef], defers := [] } ∧ w'.heap[g]? = some (.cells (rowB 32 (foldS (l ++ [x]))) 28 (0, 0)) ∧ Below W.heap.size W w') ?imp ?tree
  case tree =>
    refine wp_region_tree (S := fun w' => Below W.heap.size W w') 8 (by kernel_rfl) (by kernel_rfl) (Below.refl _ _).drew (fun hHeld => ?_)
    refine wpAnyH_take (i := 0) (v := ?_) rfl (by kernel_rfl) (by kernel_rfl) (by kernel_rfl) (fun _ _ _ h => h) (Or.inl ⟨by rfl, ?_⟩) hHeld ?_
    rotate_left
    · (intro w hSw; go_simp; first | done | with_reducible rfl)
    try simp only [Act.put, List.getElem_toArray, List.getElem_cons_zero, List.getElem_cons_succ, List.setIfInBounds_toArray, List.set_cons_zero, List.set_cons_succ]
    refine wpAnyH_take (i := 2) rfl (by kernel_rfl) (by kernel_rfl) (by kernel_rfl) (fun _ _ _ h => h) (yieldsIf_load_mid (by rfl) _ _ rfl _ _ rfl _ _ (fun w hw => hrg w hw) hu rfl hi) hHeld ?_
    try simp only [Act.put, List.getElem_toArray, List.getElem_cons_zero, List.getElem_cons_succ, List.setIfInBounds_toArray, List.set_cons_zero, List.set_cons_succ, rowB_back]
    refine wpAnyH_ready (rs := [1, 3, 6]) (by kernel_rfl) (by simp) ((AllReadyH.cons rfl (fun K hK => ?_) (AllReadyH.cons rfl (fun K hK => ?_) (AllReadyH.cons rfl (fun K hK => ?_) AllReadyH.nil))))
    · rw [if_pos (by rfl)]
      refine wp_append_N (.const (.slice none 0 0)) (.tmp 19) rfl _ _ [] l rfl (World.ownsRow_nil _ _ _ _) (HV2.out.below hHeld) (by have := HLL.out; simp; omega) (Nat.le_refl _) ?_; intro v1 w1 hown1 hg1; rw [List.nil_append] at hown1; have hl1 := hown1.lt; replace hown1 : OwnN w1 W.heap.size v1 l := hown1.le hHeld.size; have hg1 : World.grownBy _ w1 none := hg1
      refine hK.out _ _ (hHeld.grown hg1 hHeld.size (fun k hk => by cases hk)) (fun hHeld2 => ?_)
      clear hK K hHeld
      have hHeld := hHeld2
      clear hHeld2
      try simp only [Act.put, List.getElem_toArray, List.getElem_cons_zero, List.getElem_cons_succ, List.setIfInBounds_toArray, List.set_cons_zero, List.set_cons_succ]
      refine wpAnyH_ready (rs := [3, 6]) (by kernel_rfl) (by simp) ((AllReadyH.cons rfl (fun K hK => ?_) (AllReadyH.cons rfl (fun K hK => ?_) AllReadyH.nil)))
      · rw [if_pos (by rfl)]
        refine wp_build_to (.tmp 21) rfl x rfl ?_; intro g3 w3 h3 e3 hg3; clear e3
        replace hown1 : OwnN w3 W.heap.size v1 l := World.ownsRow.kept0 hown1 hg3
        refine hK.out _ _ (hHeld.grown hg3 hHeld.size (fun k hk => by cases hk)) (fun hHeld2 => ?_)
        clear hK K hHeld
        have hHeld := hHeld2
        clear hHeld2
        try simp only [Act.put, List.getElem_toArray, List.getElem_cons_zero, List.getElem_cons_succ, List.setIfInBounds_toArray, List.set_cons_zero, List.set_cons_succ]
        refine wpAnyH_ready (rs := [4, 6]) (by kernel_rfl) (by simp) ((AllReadyH.cons rfl (fun K hK => ?_) (AllReadyH.cons rfl (fun K hK => ?_) AllReadyH.nil)))
        · rw [if_pos (by rfl)]
          refine wp_append_N (.tmp 20) (.tmp 22) rfl W.heap.size v1 l [x] rfl hown1 (nrow_one h3) (by have := HLL.out; simp; omega) hHeld.size ?_; intro v4 w4 hown4 hg4
          refine hK.out _ _ (hHeld.grown hg4 hHeld.size (fun k hk => (hown1.lt k hk).1)) (fun hHeld2 => ?_)
          clear hK K hHeld
          have hHeld := hHeld2
          clear hHeld2
          try simp only [Act.put, List.getElem_toArray, List.getElem_cons_zero, List.getElem_cons_succ, List.setIfInBounds_toArray, List.set_cons_zero, List.set_cons_succ]
          refine wpAnyH_ready (rs := [5, 6]) (by kernel_rfl) (by simp) ((AllReadyH.cons rfl (fun K hK => ?_) (AllReadyH.cons rfl (fun K hK => ?_) AllReadyH.nil)))
          · rw [if_pos (by rfl)]
            go_simp; refine (fold_any _ (l ++ [x]) _ hown4.nrow (by have := HL.out; simp; omega)).mono ?_; rintro e w5 ⟨rfl, hbc⟩; dsimp only
            refine hK.out _ _ (below_keep hHeld hbc) (fun hHeld2 => ?_)
            clear hK K hHeld
            have hHeld := hHeld2
            clear hHeld2
            try simp only [Act.put, List.getElem_toArray, List.getElem_cons_zero, List.getElem_cons_succ, List.setIfInBounds_toArray, List.set_cons_zero, List.set_cons_succ]
            refine wpAnyH_ready (rs := [6]) (by kernel_rfl) (by simp) ((AllReadyH.cons rfl (fun K hK => ?_) AllReadyH.nil))
            rw [if_pos (by rfl)]
            refine wp_alloc_to 28 rfl 32 _ info32 ?_; intro g6 w6 h6 e6 hg6; have hge6 : W.heap.size ≤ g6 := by have := hHeld.size; omega
            refine hK.out _ _ (hHeld.grown hg6 hHeld.size (fun k hk => by cases hk)) (fun hHeld2 => ?_)
            clear hK K hHeld
            have hHeld := hHeld2
            clear hHeld2
            try simp only [Act.put, List.getElem_toArray, List.getElem_cons_zero, List.getElem_cons_succ, List.setIfInBounds_toArray, List.set_cons_zero, List.set_cons_succ]
            clear e6
            refine wpAnyH_ready (rs := [7]) (by kernel_rfl) (by simp) ((AllReadyH.cons rfl (fun K hK => ?_) AllReadyH.nil))
            rw [if_pos (by rfl)]
            refine wp_store_to (.tmp 7) (.tmp 24) rfl g6 (foldS (l ++ [x])) rfl rfl 28 _ h6 ?_; intro w7 h7 hg7
            refine hK.out _ _ (hHeld.grown hg7 hHeld.size (fun k hk => by cases hk; exact hge6)) (fun hHeld2 => ?_)
            clear hK K hHeld
            have hHeld := hHeld2
            clear hHeld2
            try simp only [Act.put, List.getElem_toArray, List.getElem_cons_zero, List.getElem_cons_succ, List.setIfInBounds_toArray, List.set_cons_zero, List.set_cons_succ]
            refine wpAnyH_done (by kernel_rfl) (NoPanic.normal ?_) _
            exact ⟨rfl, _, _, _, _, _, _, g6, rfl, h7, hHeld⟩
          · rw [if_pos (by rfl)]
            refine wp_alloc_to 28 rfl 32 _ info32 ?_; intro g6 w6 h6 e6 hg6; have hge6 : W.heap.size ≤ g6 := by have := hHeld.size; omega
            replace hown4 : OwnN w6 W.heap.size v4 (l ++ [x]) := World.ownsRow.kept0 hown4 hg6
            refine hK.out _ _ (hHeld.grown hg6 hHeld.size (fun k hk => by cases hk)) (fun hHeld2 => ?_)
            clear hK K hHeld
            have hHeld := hHeld2
            clear hHeld2
            try simp only [Act.put, List.getElem_toArray, List.getElem_cons_zero, List.getElem_cons_succ, List.setIfInBounds_toArray, List.set_cons_zero, List.set_cons_succ]
            clear e6
            refine wpAnyH_ready (rs := [5]) (by kernel_rfl) (by simp) ((AllReadyH.cons rfl (fun K hK => ?_) AllReadyH.nil))
            rw [if_pos (by rfl)]
            go_simp; refine (fold_any _ (l ++ [x]) _ hown4.nrow (by have := HL.out; simp; omega)).mono ?_; rintro e w5 ⟨rfl, hbc⟩; dsimp only
            replace h6 := keepCell (b := none) h6 (grown_of_below hbc) nofun
            refine hK.out _ _ (below_keep hHeld hbc) (fun hHeld2 => ?_)
            clear hK K hHeld
            have hHeld := hHeld2
            clear hHeld2
            try simp only [Act.put, List.getElem_toArray, List.getElem_cons_zero, List.getElem_cons_succ, List.setIfInBounds_toArray, List.set_cons_zero, List.set_cons_succ]
            refine wpAnyH_ready (rs := [7]) (by kernel_rfl) (by simp) ((AllReadyH.cons rfl (fun K hK => ?_) AllReadyH.nil))
            rw [if_pos (by rfl)]
            refine wp_store_to (.tmp 7) (.tmp 24) rfl g6 (foldS (l ++ [x])) rfl rfl 28 _ h6 ?_; intro w7 h7 hg7
            refine hK.out _ _ (hHeld.grown hg7 hHeld.size (fun k hk => by cases hk; exact hge6)) (fun hHeld2 => ?_)
            clear hK K hHeld
            have hHeld := hHeld2
            clear hHeld2
            try simp only [Act.put, List.getElem_toArray, List.getElem_cons_zero, List.getElem_cons_succ, List.setIfInBounds_toArray, List.set_cons_zero, List.set_cons_succ]
            refine wpAnyH_done (by kernel_rfl) (NoPanic.normal ?_) _
            exact ⟨rfl, _, _, _, _, _, _, g6, rfl, h7, hHeld⟩
        · rw [if_pos (by rfl)]
          refine wp_alloc_to 28 rfl 32 _ info32 ?_; intro g6 w6 h6 e6 hg6; have hge6 : W.heap.size ≤ g6 := by have := hHeld.size; omega
          have d16 : some g6 ≠ v1.ownBlock := fun e => (by have := (World.ownsRow.lt hown1 _ e.symm).2; omega); replace hown1 : OwnN w6 W.heap.size v1 l := World.ownsRow.kept0 hown1 hg6
          replace h3 := keepCell h3 hg6 nofun
          refine hK.out _ _ (hHeld.grown hg6 hHeld.size (fun k hk => by cases hk)) (fun hHeld2 => ?_)
          clear hK K hHeld
          have hHeld := hHeld2
          clear hHeld2
          try simp only [Act.put, List.getElem_toArray, List.getElem_cons_zero, List.getElem_cons_succ, List.setIfInBounds_toArray, List.set_cons_zero, List.set_cons_succ]
          clear e6
          refine wpAnyH_ready (rs := [4]) (by kernel_rfl) (by simp) ((AllReadyH.cons rfl (fun K hK => ?_) AllReadyH.nil))
          rw [if_pos (by rfl)]
          refine wp_append_N (.tmp 20) (.tmp 22) rfl W.heap.size v1 l [x] rfl hown1 (nrow_one h3) (by have := HLL.out; simp; omega) hHeld.size ?_; intro v4 w4 hown4 hg4
          replace h6 := keepCell h6 hg4 d16
          refine hK.out _ _ (hHeld.grown hg4 hHeld.size (fun k hk => (hown1.lt k hk).1)) (fun hHeld2 => ?_)
          clear hK K hHeld
          have hHeld := hHeld2
          clear hHeld2
          try simp only [Act.put, List.getElem_toArray, List.getElem_cons_zero, List.getElem_cons_succ, List.setIfInBounds_toArray, List.set_cons_zero, List.set_cons_succ]
          refine wpAnyH_ready (rs := [5]) (by kernel_rfl) (by simp) ((AllReadyH.cons rfl (fun K hK => ?_) AllReadyH.nil))
          rw [if_pos (by rfl)]
          go_simp; refine (fold_any _ (l ++ [x]) _ hown4.nrow (by have := HL.out; simp; omega)).mono ?_; rintro e w5 ⟨rfl, hbc⟩; dsimp only
          replace h6 := keepCell (b := none) h6 (grown_of_below hbc) nofun
          refine hK.out _ _ (below_keep hHeld hbc) (fun hHeld2 => ?_)
          clear hK K hHeld
          have hHeld := hHeld2
          clear hHeld2
          try simp only [Act.put, List.getElem_toArray, List.getElem_cons_zero, List.getElem_cons_succ, List.setIfInBounds_toArray, List.set_cons_zero, List.set_cons_succ]
          refine wpAnyH_ready (rs := [7]) (by kernel_rfl) (by simp) ((AllReadyH.cons rfl (fun K hK => ?_) AllReadyH.nil))
          rw [if_pos (by rfl)]
          refine wp_store_to (.tmp 7) (.tmp 24) rfl g6 (foldS (l ++ [x])) rfl rfl 28 _ h6 ?_; intro w7 h7 hg7
          refine hK.out _ _ (hHeld.grown hg7 hHeld.size (fun k hk => by cases hk; exact hge6)) (fun hHeld2 => ?_)
          clear hK K hHeld
          have hHeld := hHeld2
          clear hHeld2
          try simp only [Act.put, List.getElem_toArray, List.getElem_cons_zero, List.getElem_cons_succ, List.setIfInBounds_toArray, List.set_cons_zero, List.set_cons_succ]
          refine wpAnyH_done (by kernel_rfl) (NoPanic.normal ?_) _
          exact ⟨rfl, _, _, _, _, _, _, g6, rfl, h7, hHeld⟩
      · rw [if_pos (by rfl)]
        refine wp_alloc_to 28 rfl 32 _ info32 ?_; intro g6 w6 h6 e6 hg6; have hge6 : W.heap.size ≤ g6 := by have := hHeld.size; omega
        have d16 : some g6 ≠ v1.ownBlock := fun e => (by have := (World.ownsRow.lt hown1 _ e.symm).2; omega); replace hown1 : OwnN w6 W.heap.size v1 l := World.ownsRow.kept0 hown1 hg6
        refine hK.out _ _ (hHeld.grown hg6 hHeld.size (fun k hk => by cases hk)) (fun hHeld2 => ?_)
        clear hK K hHeld
        have hHeld := hHeld2
        clear hHeld2
        try simp only [Act.put, List.getElem_toArray, List.getElem_cons_zero, List.getElem_cons_succ, List.setIfInBounds_toArray, List.set_cons_zero, List.set_cons_succ]
        clear e6
        refine wpAnyH_ready (rs := [3]) (by kernel_rfl) (by simp) ((AllReadyH.cons rfl (fun K hK => ?_) AllReadyH.nil))
        rw [if_pos (by rfl)]
        refine wp_build_to (.tmp 21) rfl x rfl ?_; intro g3 w3 h3 e3 hg3; clear e3
        replace hown1 : OwnN w3 W.heap.size v1 l := World.ownsRow.kept0 hown1 hg3
        replace h6 := keepCell h6 hg3 nofun
        refine hK.out _ _ (hHeld.grown hg3 hHeld.size (fun k hk => by cases hk)) (fun hHeld2 => ?_)
        clear hK K hHeld
        have hHeld := hHeld2
        clear hHeld2
        try simp only [Act.put, List.getElem_toArray, List.getElem_cons_zero, List.getElem_cons_succ, List.setIfInBounds_toArray, List.set_cons_zero, List.set_cons_succ]
        refine wpAnyH_ready (rs := [4]) (by kernel_rfl) (by simp) ((AllReadyH.cons rfl (fun K hK => ?_) AllReadyH.nil))
        rw [if_pos (by rfl)]
        refine wp_append_N (.tmp 20) (.tmp 22) rfl W.heap.size v1 l [x] rfl hown1 (nrow_one h3) (by have := HLL.out; simp; omega) hHeld.size ?_; intro v4 w4 hown4 hg4
        replace h6 := keepCell h6 hg4 d16
        refine hK.out _ _ (hHeld.grown hg4 hHeld.size (fun k hk => (hown1.lt k hk).1)) (fun hHeld2 => ?_)
        clear hK K hHeld
        have hHeld := hHeld2
        clear hHeld2
        try simp only [Act.put, List.getElem_toArray, List.getElem_cons_zero, List.getElem_cons_succ, List.setIfInBounds_toArray, List.set_cons_zero, List.set_cons_succ]
        refine wpAnyH_ready (rs := [5]) (by kernel_rfl) (by simp) ((AllReadyH.cons rfl (fun K hK => ?_) AllReadyH.nil))
        rw [if_pos (by rfl)]
        go_simp; refine (fold_any _ (l ++ [x]) _ hown4.nrow (by have := HL.out; simp; omega)).mono ?_; rintro e w5 ⟨rfl, hbc⟩; dsimp only
        replace h6 := keepCell (b := none) h6 (grown_of_below hbc) nofun
        refine hK.out _ _ (below_keep hHeld hbc) (fun hHeld2 => ?_)
        clear hK K hHeld
        have hHeld := hHeld2
        clear hHeld2
        try simp only [Act.put, List.getElem_toArray, List.getElem_cons_zero, List.getElem_cons_succ, List.setIfInBounds_toArray, List.set_cons_zero, List.set_cons_succ]
        refine wpAnyH_ready (rs := [7]) (by kernel_rfl) (by simp) ((AllReadyH.cons rfl (fun K hK => ?_) AllReadyH.nil))
        rw [if_pos (by rfl)]
        refine wp_store_to (.tmp 7) (.tmp 24) rfl g6 (foldS (l ++ [x])) rfl rfl 28 _ h6 ?_; intro w7 h7 hg7
        refine hK.out _ _ (hHeld.grown hg7 hHeld.size (fun k hk => by cases hk; exact hge6)) (fun hHeld2 => ?_)
        clear hK K hHeld
        have hHeld := hHeld2
        clear hHeld2
        try simp only [Act.put, List.getElem_toArray, List.getElem_cons_zero, List.getElem_cons_succ, List.setIfInBounds_toArray, List.set_cons_zero, List.set_cons_succ]
        refine wpAnyH_done (by kernel_rfl) (NoPanic.normal ?_) _
        exact ⟨rfl, _, _, _, _, _, _, g6, rfl, h7, hHeld⟩
    · rw [if_pos (by rfl)]
      refine wp_build_to (.tmp 21) rfl x rfl ?_; intro g3 w3 h3 e3 hg3; clear e3
      refine hK.out _ _ (hHeld.grown hg3 hHeld.size (fun k hk => by cases hk)) (fun hHeld2 => ?_)
      clear hK K hHeld
      have hHeld := hHeld2
      clear hHeld2
      try simp only [Act.put, List.getElem_toArray, List.getElem_cons_zero, List.getElem_cons_succ, List.setIfInBounds_toArray, List.set_cons_zero, List.set_cons_succ]
      refine wpAnyH_ready (rs := [1, 6]) (by kernel_rfl) (by simp) ((AllReadyH.cons rfl (fun K hK => ?_) (AllReadyH.cons rfl (fun K hK => ?_) AllReadyH.nil)))
      · rw [if_pos (by rfl)]
        refine wp_append_N (.const (.slice none 0 0)) (.tmp 19) rfl _ _ [] l rfl (World.ownsRow_nil _ _ _ _) (HV2.out.below hHeld) (by have := HLL.out; simp; omega) (Nat.le_refl _) ?_; intro v1 w1 hown1 hg1; rw [List.nil_append] at hown1; have hl1 := hown1.lt; replace hown1 : OwnN w1 W.heap.size v1 l := hown1.le hHeld.size; have hg1 : World.grownBy _ w1 none := hg1
        replace h3 := keepCell h3 hg1 nofun
        refine hK.out _ _ (hHeld.grown hg1 hHeld.size (fun k hk => by cases hk)) (fun hHeld2 => ?_)
        clear hK K hHeld
        have hHeld := hHeld2
        clear hHeld2
        try simp only [Act.put, List.getElem_toArray, List.getElem_cons_zero, List.getElem_cons_succ, List.setIfInBounds_toArray, List.set_cons_zero, List.set_cons_succ]
        refine wpAnyH_ready (rs := [4, 6]) (by kernel_rfl) (by simp) ((AllReadyH.cons rfl (fun K hK => ?_) (AllReadyH.cons rfl (fun K hK => ?_) AllReadyH.nil)))
        · rw [if_pos (by rfl)]
          refine wp_append_N (.tmp 20) (.tmp 22) rfl W.heap.size v1 l [x] rfl hown1 (nrow_one h3) (by have := HLL.out; simp; omega) hHeld.size ?_; intro v4 w4 hown4 hg4
          refine hK.out _ _ (hHeld.grown hg4 hHeld.size (fun k hk => (hown1.lt k hk).1)) (fun hHeld2 => ?_)
          clear hK K hHeld
          have hHeld := hHeld2
          clear hHeld2
          try simp only [Act.put, List.getElem_toArray, List.getElem_cons_zero, List.getElem_cons_succ, List.setIfInBounds_toArray, List.set_cons_zero, List.set_cons_succ]
          refine wpAnyH_ready (rs := [5, 6]) (by kernel_rfl) (by simp) ((AllReadyH.cons rfl (fun K hK => ?_) (AllReadyH.cons rfl (fun K hK => ?_) AllReadyH.nil)))
          · rw [if_pos (by rfl)]
            go_simp; refine (fold_any _ (l ++ [x]) _ hown4.nrow (by have := HL.out; simp; omega)).mono ?_; rintro e w5 ⟨rfl, hbc⟩; dsimp only
            refine hK.out _ _ (below_keep hHeld hbc) (fun hHeld2 => ?_)
            clear hK K hHeld
            have hHeld := hHeld2
            clear hHeld2
            try simp only [Act.put, List.getElem_toArray, List.getElem_cons_zero, List.getElem_cons_succ, List.setIfInBounds_toArray, List.set_cons_zero, List.set_cons_succ]
            refine wpAnyH_ready (rs := [6]) (by kernel_rfl) (by simp) ((AllReadyH.cons rfl (fun K hK => ?_) AllReadyH.nil))
            rw [if_pos (by rfl)]
            refine wp_alloc_to 28 rfl 32 _ info32 ?_; intro g6 w6 h6 e6 hg6; have hge6 : W.heap.size ≤ g6 := by have := hHeld.size; omega
            refine hK.out _ _ (hHeld.grown hg6 hHeld.size (fun k hk => by cases hk)) (fun hHeld2 => ?_)
            clear hK K hHeld
            have hHeld := hHeld2
            clear hHeld2
            try simp only [Act.put, List.getElem_toArray, List.getElem_cons_zero, List.getElem_cons_succ, List.setIfInBounds_toArray, List.set_cons_zero, List.set_cons_succ]
            clear e6
            refine wpAnyH_ready (rs := [7]) (by kernel_rfl) (by simp) ((AllReadyH.cons rfl (fun K hK => ?_) AllReadyH.nil))
            rw [if_pos (by rfl)]
            refine wp_store_to (.tmp 7) (.tmp 24) rfl g6 (foldS (l ++ [x])) rfl rfl 28 _ h6 ?_; intro w7 h7 hg7
            refine hK.out _ _ (hHeld.grown hg7 hHeld.size (fun k hk => by cases hk; exact hge6)) (fun hHeld2 => ?_)
            clear hK K hHeld
            have hHeld := hHeld2
            clear hHeld2
            try simp only [Act.put, List.getElem_toArray, List.getElem_cons_zero, List.getElem_cons_succ, List.setIfInBounds_toArray, List.set_cons_zero, List.set_cons_succ]
            refine wpAnyH_done (by kernel_rfl) (NoPanic.normal ?_) _
            exact ⟨rfl, _, _, _, _, _, _, g6, rfl, h7, hHeld⟩
          · rw [if_pos (by rfl)]
            refine wp_alloc_to 28 rfl 32 _ info32 ?_; intro g6 w6 h6 e6 hg6; have hge6 : W.heap.size ≤ g6 := by have := hHeld.size; omega
            replace hown4 : OwnN w6 W.heap.size v4 (l ++ [x]) := World.ownsRow.kept0 hown4 hg6
            refine hK.out _ _ (hHeld.grown hg6 hHeld.size (fun k hk => by cases hk)) (fun hHeld2 => ?_)
            clear hK K hHeld
            have hHeld := hHeld2
            clear hHeld2
            try simp only [Act.put, List.getElem_toArray, List.getElem_cons_zero, List.getElem_cons_succ, List.setIfInBounds_toArray, List.set_cons_zero, List.set_cons_succ]
            clear e6
            refine wpAnyH_ready (rs := [5]) (by kernel_rfl) (by simp) ((AllReadyH.cons rfl (fun K hK => ?_) AllReadyH.nil))
            rw [if_pos (by rfl)]
            go_simp; refine (fold_any _ (l ++ [x]) _ hown4.nrow (by have := HL.out; simp; omega)).mono ?_; rintro e w5 ⟨rfl, hbc⟩; dsimp only
            replace h6 := keepCell (b := none) h6 (grown_of_below hbc) nofun
            refine hK.out _ _ (below_keep hHeld hbc) (fun hHeld2 => ?_)
            clear hK K hHeld
            have hHeld := hHeld2
            clear hHeld2
            try simp only [Act.put, List.getElem_toArray, List.getElem_cons_zero, List.getElem_cons_succ, List.setIfInBounds_toArray, List.set_cons_zero, List.set_cons_succ]
            refine wpAnyH_ready (rs := [7]) (by kernel_rfl) (by simp) ((AllReadyH.cons rfl (fun K hK => ?_) AllReadyH.nil))
            rw [if_pos (by rfl)]
            refine wp_store_to (.tmp 7) (.tmp 24) rfl g6 (foldS (l ++ [x])) rfl rfl 28 _ h6 ?_; intro w7 h7 hg7
            refine hK.out _ _ (hHeld.grown hg7 hHeld.size (fun k hk => by cases hk; exact hge6)) (fun hHeld2 => ?_)
            clear hK K hHeld
            have hHeld := hHeld2
            clear hHeld2
            try simp only [Act.put, List.getElem_toArray, List.getElem_cons_zero, List.getElem_cons_succ, List.setIfInBounds_toArray, List.set_cons_zero, List.set_cons_succ]
            refine wpAnyH_done (by kernel_rfl) (NoPanic.normal ?_) _
            exact ⟨rfl, _, _, _, _, _, _, g6, rfl, h7, hHeld⟩
        · rw [if_pos (by rfl)]
          refine wp_alloc_to 28 rfl 32 _ info32 ?_; intro g6 w6 h6 e6 hg6; have hge6 : W.heap.size ≤ g6 := by have := hHeld.size; omega
          replace h3 := keepCell h3 hg6 nofun
          have d16 : some g6 ≠ v1.ownBlock := fun e => (by have := (World.ownsRow.lt hown1 _ e.symm).2; omega); replace hown1 : OwnN w6 W.heap.size v1 l := World.ownsRow.kept0 hown1 hg6
          refine hK.out _ _ (hHeld.grown hg6 hHeld.size (fun k hk => by cases hk)) (fun hHeld2 => ?_)
          clear hK K hHeld
          have hHeld := hHeld2
          clear hHeld2
          try simp only [Act.put, List.getElem_toArray, List.getElem_cons_zero, List.getElem_cons_succ, List.setIfInBounds_toArray, List.set_cons_zero, List.set_cons_succ]
          clear e6
          refine wpAnyH_ready (rs := [4]) (by kernel_rfl) (by simp) ((AllReadyH.cons rfl (fun K hK => ?_) AllReadyH.nil))
          rw [if_pos (by rfl)]
          refine wp_append_N (.tmp 20) (.tmp 22) rfl W.heap.size v1 l [x] rfl hown1 (nrow_one h3) (by have := HLL.out; simp; omega) hHeld.size ?_; intro v4 w4 hown4 hg4
          replace h6 := keepCell h6 hg4 d16
          refine hK.out _ _ (hHeld.grown hg4 hHeld.size (fun k hk => (hown1.lt k hk).1)) (fun hHeld2 => ?_)
          clear hK K hHeld
          have hHeld := hHeld2
          clear hHeld2
          try simp only [Act.put, List.getElem_toArray, List.getElem_cons_zero, List.getElem_cons_succ, List.setIfInBounds_toArray, List.set_cons_zero, List.set_cons_succ]
          refine wpAnyH_ready (rs := [5]) (by kernel_rfl) (by simp) ((AllReadyH.cons rfl (fun K hK => ?_) AllReadyH.nil))
          rw [if_pos (by rfl)]
          go_simp; refine (fold_any _ (l ++ [x]) _ hown4.nrow (by have := HL.out; simp; omega)).mono ?_; rintro e w5 ⟨rfl, hbc⟩; dsimp only
          replace h6 := keepCell (b := none) h6 (grown_of_below hbc) nofun
          refine hK.out _ _ (below_keep hHeld hbc) (fun hHeld2 => ?_)
          clear hK K hHeld
          have hHeld := hHeld2
          clear hHeld2
          try simp only [Act.put, List.getElem_toArray, List.getElem_cons_zero, List.getElem_cons_succ, List.setIfInBounds_toArray, List.set_cons_zero, List.set_cons_succ]
          refine wpAnyH_ready (rs := [7]) (by kernel_rfl) (by simp) ((AllReadyH.cons rfl (fun K hK => ?_) AllReadyH.nil))
          rw [if_pos (by rfl)]
          refine wp_store_to (.tmp 7) (.tmp 24) rfl g6 (foldS (l ++ [x])) rfl rfl 28 _ h6 ?_; intro w7 h7 hg7
          refine hK.out _ _ (hHeld.grown hg7 hHeld.size (fun k hk => by cases hk; exact hge6)) (fun hHeld2 => ?_)
          clear hK K hHeld
          have hHeld := hHeld2
          clear hHeld2
          try simp only [Act.put, List.getElem_toArray, List.getElem_cons_zero, List.getElem_cons_succ, List.setIfInBounds_toArray, List.set_cons_zero, List.set_cons_succ]
          refine wpAnyH_done (by kernel_rfl) (NoPanic.normal ?_) _
          exact ⟨rfl, _, _, _, _, _, _, g6, rfl, h7, hHeld⟩
      · rw [if_pos (by rfl)]
        refine wp_alloc_to 28 rfl 32 _ info32 ?_; intro g6 w6 h6 e6 hg6; have hge6 : W.heap.size ≤ g6 := by have := hHeld.size; omega
        replace h3 := keepCell h3 hg6 nofun
        refine hK.out _ _ (hHeld.grown hg6 hHeld.size (fun k hk => by cases hk)) (fun hHeld2 => ?_)
        clear hK K hHeld
        have hHeld := hHeld2
        clear hHeld2
        try simp only [Act.put, List.getElem_toArray, List.getElem_cons_zero, List.getElem_cons_succ, List.setIfInBounds_toArray, List.set_cons_zero, List.set_cons_succ]
        clear e6
        refine wpAnyH_ready (rs := [1]) (by kernel_rfl) (by simp) ((AllReadyH.cons rfl (fun K hK => ?_) AllReadyH.nil))
        rw [if_pos (by rfl)]
        refine wp_append_N (.const (.slice none 0 0)) (.tmp 19) rfl _ _ [] l rfl (World.ownsRow_nil _ _ _ _) (HV2.out.below hHeld) (by have := HLL.out; simp; omega) (Nat.le_refl _) ?_; intro v1 w1 hown1 hg1; rw [List.nil_append] at hown1; have hl1 := hown1.lt; replace hown1 : OwnN w1 W.heap.size v1 l := hown1.le hHeld.size; have hg1 : World.grownBy _ w1 none := hg1
        replace h3 := keepCell h3 hg1 nofun
        have d16 : some g6 ≠ v1.ownBlock := fun e => absurd (hl1 _ e.symm).1 (by have := (Array.getElem?_eq_some_iff.1 h6).1; omega); replace h6 := keepCell h6 hg1 nofun
        refine hK.out _ _ (hHeld.grown hg1 hHeld.size (fun k hk => by cases hk)) (fun hHeld2 => ?_)
        clear hK K hHeld
        have hHeld := hHeld2
        clear hHeld2
        try simp only [Act.put, List.getElem_toArray, List.getElem_cons_zero, List.getElem_cons_succ, List.setIfInBounds_toArray, List.set_cons_zero, List.set_cons_succ]
        refine wpAnyH_ready (rs := [4]) (by kernel_rfl) (by simp) ((AllReadyH.cons rfl (fun K hK => ?_) AllReadyH.nil))
        rw [if_pos (by rfl)]
        refine wp_append_N (.tmp 20) (.tmp 22) rfl W.heap.size v1 l [x] rfl hown1 (nrow_one h3) (by have := HLL.out; simp; omega) hHeld.size ?_; intro v4 w4 hown4 hg4
        replace h6 := keepCell h6 hg4 d16
        refine hK.out _ _ (hHeld.grown hg4 hHeld.size (fun k hk => (hown1.lt k hk).1)) (fun hHeld2 => ?_)
        clear hK K hHeld
        have hHeld := hHeld2
        clear hHeld2
        try simp only [Act.put, List.getElem_toArray, List.getElem_cons_zero, List.getElem_cons_succ, List.setIfInBounds_toArray, List.set_cons_zero, List.set_cons_succ]
        refine wpAnyH_ready (rs := [5]) (by kernel_rfl) (by simp) ((AllReadyH.cons rfl (fun K hK => ?_) AllReadyH.nil))
        rw [if_pos (by rfl)]
        go_simp; refine (fold_any _ (l ++ [x]) _ hown4.nrow (by have := HL.out; simp; omega)).mono ?_; rintro e w5 ⟨rfl, hbc⟩; dsimp only
        replace h6 := keepCell (b := none) h6 (grown_of_below hbc) nofun
        refine hK.out _ _ (below_keep hHeld hbc) (fun hHeld2 => ?_)
        clear hK K hHeld
        have hHeld := hHeld2
        clear hHeld2
        try simp only [Act.put, List.getElem_toArray, List.getElem_cons_zero, List.getElem_cons_succ, List.setIfInBounds_toArray, List.set_cons_zero, List.set_cons_succ]
        refine wpAnyH_ready (rs := [7]) (by kernel_rfl) (by simp) ((AllReadyH.cons rfl (fun K hK => ?_) AllReadyH.nil))
        rw [if_pos (by rfl)]
        refine wp_store_to (.tmp 7) (.tmp 24) rfl g6 (foldS (l ++ [x])) rfl rfl 28 _ h6 ?_; intro w7 h7 hg7
        refine hK.out _ _ (hHeld.grown hg7 hHeld.size (fun k hk => by cases hk; exact hge6)) (fun hHeld2 => ?_)
        clear hK K hHeld
        have hHeld := hHeld2
        clear hHeld2
        try simp only [Act.put, List.getElem_toArray, List.getElem_cons_zero, List.getElem_cons_succ, List.setIfInBounds_toArray, List.set_cons_zero, List.set_cons_succ]
        refine wpAnyH_done (by kernel_rfl) (NoPanic.normal ?_) _
        exact ⟨rfl, _, _, _, _, _, _, g6, rfl, h7, hHeld⟩
    · rw [if_pos (by rfl)]
      refine wp_alloc_to 28 rfl 32 _ info32 ?_; intro g6 w6 h6 e6 hg6; have hge6 : W.heap.size ≤ g6 := by have := hHeld.size; omega
      refine hK.out _ _ (hHeld.grown hg6 hHeld.size (fun k hk => by cases hk)) (fun hHeld2 => ?_)
      clear hK K hHeld
      have hHeld := hHeld2
      clear hHeld2
      try simp only [Act.put, List.getElem_toArray, List.getElem_cons_zero, List.getElem_cons_succ, List.setIfInBounds_toArray, List.set_cons_zero, List.set_cons_succ]
      clear e6
      refine wpAnyH_ready (rs := [1, 3]) (by kernel_rfl) (by simp) ((AllReadyH.cons rfl (fun K hK => ?_) (AllReadyH.cons rfl (fun K hK => ?_) AllReadyH.nil)))
      · rw [if_pos (by rfl)]
        refine wp_append_N (.const (.slice none 0 0)) (.tmp 19) rfl _ _ [] l rfl (World.ownsRow_nil _ _ _ _) (HV2.out.below hHeld) (by have := HLL.out; simp; omega) (Nat.le_refl _) ?_; intro v1 w1 hown1 hg1; rw [List.nil_append] at hown1; have hl1 := hown1.lt; replace hown1 : OwnN w1 W.heap.size v1 l := hown1.le hHeld.size; have hg1 : World.grownBy _ w1 none := hg1
        have d16 : some g6 ≠ v1.ownBlock := fun e => absurd (hl1 _ e.symm).1 (by have := (Array.getElem?_eq_some_iff.1 h6).1; omega); replace h6 := keepCell h6 hg1 nofun
        refine hK.out _ _ (hHeld.grown hg1 hHeld.size (fun k hk => by cases hk)) (fun hHeld2 => ?_)
        clear hK K hHeld
        have hHeld := hHeld2
        clear hHeld2
        try simp only [Act.put, List.getElem_toArray, List.getElem_cons_zero, List.getElem_cons_succ, List.setIfInBounds_toArray, List.set_cons_zero, List.set_cons_succ]
        refine wpAnyH_ready (rs := [3]) (by kernel_rfl) (by simp) ((AllReadyH.cons rfl (fun K hK => ?_) AllReadyH.nil))
        rw [if_pos (by rfl)]
        refine wp_build_to (.tmp 21) rfl x rfl ?_; intro g3 w3 h3 e3 hg3; clear e3
        replace h6 := keepCell h6 hg3 nofun
        replace hown1 : OwnN w3 W.heap.size v1 l := World.ownsRow.kept0 hown1 hg3
        refine hK.out _ _ (hHeld.grown hg3 hHeld.size (fun k hk => by cases hk)) (fun hHeld2 => ?_)
        clear hK K hHeld
        have hHeld := hHeld2
        clear hHeld2
        try simp only [Act.put, List.getElem_toArray, List.getElem_cons_zero, List.getElem_cons_succ, List.setIfInBounds_toArray, List.set_cons_zero, List.set_cons_succ]
        refine wpAnyH_ready (rs := [4]) (by kernel_rfl) (by simp) ((AllReadyH.cons rfl (fun K hK => ?_) AllReadyH.nil))
        rw [if_pos (by rfl)]
        refine wp_append_N (.tmp 20) (.tmp 22) rfl W.heap.size v1 l [x] rfl hown1 (nrow_one h3) (by have := HLL.out; simp; omega) hHeld.size ?_; intro v4 w4 hown4 hg4
        replace h6 := keepCell h6 hg4 d16
        refine hK.out _ _ (hHeld.grown hg4 hHeld.size (fun k hk => (hown1.lt k hk).1)) (fun hHeld2 => ?_)
        clear hK K hHeld
        have hHeld := hHeld2
        clear hHeld2
        try simp only [Act.put, List.getElem_toArray, List.getElem_cons_zero, List.getElem_cons_succ, List.setIfInBounds_toArray, List.set_cons_zero, List.set_cons_succ]
        refine wpAnyH_ready (rs := [5]) (by kernel_rfl) (by simp) ((AllReadyH.cons rfl (fun K hK => ?_) AllReadyH.nil))
        rw [if_pos (by rfl)]
        go_simp; refine (fold_any _ (l ++ [x]) _ hown4.nrow (by have := HL.out; simp; omega)).mono ?_; rintro e w5 ⟨rfl, hbc⟩; dsimp only
        replace h6 := keepCell (b := none) h6 (grown_of_below hbc) nofun
        refine hK.out _ _ (below_keep hHeld hbc) (fun hHeld2 => ?_)
        clear hK K hHeld
        have hHeld := hHeld2
        clear hHeld2
        try simp only [Act.put, List.getElem_toArray, List.getElem_cons_zero, List.getElem_cons_succ, List.setIfInBounds_toArray, List.set_cons_zero, List.set_cons_succ]
        refine wpAnyH_ready (rs := [7]) (by kernel_rfl) (by simp) ((AllReadyH.cons rfl (fun K hK => ?_) AllReadyH.nil))
        rw [if_pos (by rfl)]
        refine wp_store_to (.tmp 7) (.tmp 24) rfl g6 (foldS (l ++ [x])) rfl rfl 28 _ h6 ?_; intro w7 h7 hg7
        refine hK.out _ _ (hHeld.grown hg7 hHeld.size (fun k hk => by cases hk; exact hge6)) (fun hHeld2 => ?_)
        clear hK K hHeld
        have hHeld := hHeld2
        clear hHeld2
        try simp only [Act.put, List.getElem_toArray, List.getElem_cons_zero, List.getElem_cons_succ, List.setIfInBounds_toArray, List.set_cons_zero, List.set_cons_succ]
        refine wpAnyH_done (by kernel_rfl) (NoPanic.normal ?_) _
        exact ⟨rfl, _, _, _, _, _, _, g6, rfl, h7, hHeld⟩
      · rw [if_pos (by rfl)]
        refine wp_build_to (.tmp 21) rfl x rfl ?_; intro g3 w3 h3 e3 hg3; clear e3
        replace h6 := keepCell h6 hg3 nofun
        refine hK.out _ _ (hHeld.grown hg3 hHeld.size (fun k hk => by cases hk)) (fun hHeld2 => ?_)
        clear hK K hHeld
        have hHeld := hHeld2
        clear hHeld2
        try simp only [Act.put, List.getElem_toArray, List.getElem_cons_zero, List.getElem_cons_succ, List.setIfInBounds_toArray, List.set_cons_zero, List.set_cons_succ]
        refine wpAnyH_ready (rs := [1]) (by kernel_rfl) (by simp) ((AllReadyH.cons rfl (fun K hK => ?_) AllReadyH.nil))
        rw [if_pos (by rfl)]
        refine wp_append_N (.const (.slice none 0 0)) (.tmp 19) rfl _ _ [] l rfl (World.ownsRow_nil _ _ _ _) (HV2.out.below hHeld) (by have := HLL.out; simp; omega) (Nat.le_refl _) ?_; intro v1 w1 hown1 hg1; rw [List.nil_append] at hown1; have hl1 := hown1.lt; replace hown1 : OwnN w1 W.heap.size v1 l := hown1.le hHeld.size; have hg1 : World.grownBy _ w1 none := hg1
        have d16 : some g6 ≠ v1.ownBlock := fun e => absurd (hl1 _ e.symm).1 (by have := (Array.getElem?_eq_some_iff.1 h6).1; omega); replace h6 := keepCell h6 hg1 nofun
        replace h3 := keepCell h3 hg1 nofun
        refine hK.out _ _ (hHeld.grown hg1 hHeld.size (fun k hk => by cases hk)) (fun hHeld2 => ?_)
        clear hK K hHeld
        have hHeld := hHeld2
        clear hHeld2
        try simp only [Act.put, List.getElem_toArray, List.getElem_cons_zero, List.getElem_cons_succ, List.setIfInBounds_toArray, List.set_cons_zero, List.set_cons_succ]
        refine wpAnyH_ready (rs := [4]) (by kernel_rfl) (by simp) ((AllReadyH.cons rfl (fun K hK => ?_) AllReadyH.nil))
        rw [if_pos (by rfl)]
        refine wp_append_N (.tmp 20) (.tmp 22) rfl W.heap.size v1 l [x] rfl hown1 (nrow_one h3) (by have := HLL.out; simp; omega) hHeld.size ?_; intro v4 w4 hown4 hg4
        replace h6 := keepCell h6 hg4 d16
        refine hK.out _ _ (hHeld.grown hg4 hHeld.size (fun k hk => (hown1.lt k hk).1)) (fun hHeld2 => ?_)
        clear hK K hHeld
        have hHeld := hHeld2
        clear hHeld2
        try simp only [Act.put, List.getElem_toArray, List.getElem_cons_zero, List.getElem_cons_succ, List.setIfInBounds_toArray, List.set_cons_zero, List.set_cons_succ]
        refine wpAnyH_ready (rs := [5]) (by kernel_rfl) (by simp) ((AllReadyH.cons rfl (fun K hK => ?_) AllReadyH.nil))
        rw [if_pos (by rfl)]
        go_simp; refine (fold_any _ (l ++ [x]) _ hown4.nrow (by have := HL.out; simp; omega)).mono ?_; rintro e w5 ⟨rfl, hbc⟩; dsimp only
        replace h6 := keepCell (b := none) h6 (grown_of_below hbc) nofun
        refine hK.out _ _ (below_keep hHeld hbc) (fun hHeld2 => ?_)
        clear hK K hHeld
        have hHeld := hHeld2
        clear hHeld2
        try simp only [Act.put, List.getElem_toArray, List.getElem_cons_zero, List.getElem_cons_succ, List.setIfInBounds_toArray, List.set_cons_zero, List.set_cons_succ]
        refine wpAnyH_ready (rs := [7]) (by kernel_rfl) (by simp) ((AllReadyH.cons rfl (fun K hK => ?_) AllReadyH.nil))
        rw [if_pos (by rfl)]
        refine wp_store_to (.tmp 7) (.tmp 24) rfl g6 (foldS (l ++ [x])) rfl rfl 28 _ h6 ?_; intro w7 h7 hg7
        refine hK.out _ _ (hHeld.grown hg7 hHeld.size (fun k hk => by cases hk; exact hge6)) (fun hHeld2 => ?_)
        clear hK K hHeld
        have hHeld := hHeld2
        clear hHeld2
        try simp only [Act.put, List.getElem_toArray, List.getElem_cons_zero, List.getElem_cons_succ, List.setIfInBounds_toArray, List.set_cons_zero, List.set_cons_succ]
        refine wpAnyH_done (by kernel_rfl) (NoPanic.normal ?_) _
        exact ⟨rfl, _, _, _, _, _, _, g6, rfl, h7, hHeld⟩
  case imp =>
    rintro e a' w7 ⟨rfl, u19, u20, u21, u22, u23, u24, g, rfl, hg, hb⟩
    rw [foldS_end] at hg
    change w7.heap[g]? = some (.cells (rowB 32 (sha ((List.range 32).map (foldS l) ++ (List.range 32).map x))) 28 (0, 0)) at hg
    have HG := Lib.hid hg
    have HB := Lib.hid hb
    have HR7 := Lib.hid ((hb.block _ (Array.getElem?_eq_some_iff.1 HR.out).1).trans HR.out)
    have HX7 := Lib.hid ((hb.block _ (Array.getElem?_eq_some_iff.1 HX.out).1).trans HX.out)
    clear hg hb hrg hi
    go_wp2
    have hrg := range_num HG.out
    have hi : (Tryd.prog.info? 28).map (·.size) = some (rowB 32 (sha ((List.range 32).map (foldS l) ++ (List.range 32).map x))).toList.length := by rw [size32]; simp [rowB_size]
    refine wp_region_plan (S := fun w' => Below w7.heap.size w7 w') [0, 1, 3, 2, 4, 5, 6, 7] [true, true, true, false, false, false, true, true] (by kernel_rfl) (by kernel_rfl) (Below.refl _ _).drew (fun hHeld => ?_)
    simp only [List.filterMap_cons, List.filterMap_nil, List.getElem?_toArray, List.getElem?_cons_zero, List.getElem?_cons_succ]
    refine seqH_take (yieldsIf_load_mid (by rfl) _ _ rfl _ _ rfl _ _ (fun w hw => hrg w hw) hu rfl hi) ?_
    try simp only [Act.put, List.setIfInBounds_toArray, List.set_cons_zero, List.set_cons_succ, rowB_back]
    refine seqH_take (v := ?_) (Or.inl ⟨by rfl, ?_⟩) ?_
    rotate_left
    · (intro w hSw; go_simp; first | done | with_reducible rfl)
    try simp only [Act.put, List.setIfInBounds_toArray, List.set_cons_zero, List.set_cons_succ]
    refine seqH_take (v := ?_) (Or.inl ⟨by rfl, ?_⟩) ?_
    rotate_left
    · (intro w hSw; go_simp; first | done | with_reducible rfl)
    try simp only [Act.put, List.setIfInBounds_toArray, List.set_cons_zero, List.set_cons_succ]
    refine seqH_go (fun K hK => ?_)
    rw [if_pos (by rfl)]
    refine wp_append_B (.const (.slice none 0 0)) (.tmp 26) rfl w7.heap.size _ [] ((List.range 32).map (foldS l)) rfl (World.ownsRow_nil _ _ _ _) ((brow_reg HR7.out).below hHeld) (by simp) hHeld.size ?_; intro v1 w1 hown1 hg1; rw [List.nil_append] at hown1; have hS3 : Below w7.heap.size w7 w1 := hHeld.grown hg1 hHeld.size (fun k hk => by cases hk); have HO1 := Lib.hid hown1; have HL1 := Lib.hid hown1.lt; clear hown1 hg1
    refine hK.out _ _ hS3 (fun hHeld2 => ?_)
    clear hK K hHeld hS3
    have hHeld := hHeld2
    clear hHeld2
    try simp only [Act.put, List.setIfInBounds_toArray, List.set_cons_zero, List.set_cons_succ]
    refine seqH_go (fun K hK => ?_)
    rw [if_pos (by rfl)]
    refine wp_append_B (.tmp 27) (.tmp 28) rfl w7.heap.size v1 ((List.range 32).map (foldS l)) ((List.range 32).map x) rfl HO1.out ((brow_reg HX7.out).below hHeld) (by simp) hHeld.size ?_; intro v2 w2 hown2 hg2; have hS3 : Below w7.heap.size w7 w2 := hHeld.grown hg2 hHeld.size (fun k hk => (HL1.out k hk).1); have HO2 := Lib.hid hown2; clear hown2 hg2
    refine hK.out _ _ hS3 (fun hHeld2 => ?_)
    clear hK K hHeld hS3
    have hHeld := hHeld2
    clear hHeld2
    try simp only [Act.put, List.setIfInBounds_toArray, List.set_cons_zero, List.set_cons_succ]
    refine seqH_go (fun K hK => ?_)
    rw [if_pos (by rfl)]
    go_simp
    refine (refSha_any _ ((List.range 32).map (foldS l) ++ (List.range 32).map x) _ HO2.out.brow (by simp) (HK.out.below (HW.out.trans ((HB.out.trans (hHeld.mono HB.out.size)).mono HW.out.size)))).mono ?_; rintro e w3 ⟨rfl, hbc⟩
    try dsimp only
    refine hK.out _ _ (below_keep hHeld hbc) (fun hHeld2 => ?_)
    clear hK K hHeld
    have hHeld := hHeld2
    clear hHeld2
    try simp only [Act.put, List.setIfInBounds_toArray, List.set_cons_zero, List.set_cons_succ]
    refine seqH_take (yieldsIf_sameNum (by rfl) _ _ rfl (sha ((List.range 32).map (foldS l) ++ (List.range 32).map x)) rfl rfl) ?_
    try simp only [Act.put, List.setIfInBounds_toArray, List.set_cons_zero, List.set_cons_succ]
    refine seqH_take (v := ?_) (Or.inl ⟨by rfl, ?_⟩) ?_
    rotate_left
    · (intro w hSw; go_simp; first | done | with_reducible rfl)
    try simp only [Act.put, List.setIfInBounds_toArray, List.set_cons_zero, List.set_cons_succ]
    refine seqH_nil (NoPanic.normal ?_)
    go_wp2
    go_ret
    exact ⟨rfl, HW.out.trans ((HB.out.trans (hHeld.mono HB.out.size)).mono HW.out.size)⟩

set_option maxHeartbeats 400000 in
theorem measureGoes_out (A : Option Addr) (n c : Nat) (x : Nat → BitVec 8) (w : World) (hn : 60 < n) (hk : KAt w) :
    Calls Tryd.prog 8 #[.slice A n c, .agg (rowB 32 x)] w fun e w' => e = .returned (.bool true) ∧ Below w.heap.size w w' := by
  have HK := Lib.hid hk
  have hz1 : ((60 : Int) < (n : Int)) = True := eq_true (by omega)
  clear hk
  go_enter Tryd.func8, Tryd.ntmps8
  go_wp2_with (go_at_call 26; refine (alive24_any _ (HK.out.below (below_allocS (Below.refl _ _) _))).mono ?_; rintro e w1 ⟨rfl, hb1⟩)
  go_ret
  exact ⟨rfl, below_keep (below_allocS (Below.refl _ _) _) hb1⟩
theorem measureGoes_walk {w : World} (v : Value) (l : List (Nat → BitVec 8)) (hv : NRow w v l) (hc : l.length ≤ maxLen ∧ CapOk v) (x : Nat → BitVec 8) (hk : KAt w) :
    Calls Tryd.prog 8 #[v, .agg (rowB 32 x)] w fun e w' => e = .returned (.bool true) ∧ Below w.heap.size w w' := by
  obtain ⟨A, c, rfl⟩ := hv.shape
  by_cases h : 60 < l.length
  · exact measureGoes_out _ _ _ _ _ h hk
  · exact measureGoes_in A c l x w hv (by omega) hk

end Go.Proofs.YtnnllficjljjkaaDoor
