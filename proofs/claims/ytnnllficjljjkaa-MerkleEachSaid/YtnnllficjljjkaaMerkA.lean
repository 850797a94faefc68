/-
  The example of chapter 15.
-/
import Derived.Test.YtnnllficjljjkaaMerkC
import Derived.Test.YtnnllficjljjkaaEval
import Derived.Test.YtnnllficjljjkaaOpenM
namespace Go.Proofs.Ytnnllficjljjkaa
open Go.RowKit
set_option linter.unusedVariables false
set_option linter.unusedSimpArgs false

section
variable {ops : Array Oper} {S : World → Prop} {op : Oper} {a : Act}
theorem yieldsM_build (hw : Region.wanted op (yielded ops a.tmps) = true) (parts : Array (Nat × Operand)) (ho : op.op = .build 25 parts) (f : Nat → BitVec 8)
    (hf : Try.prog.built 25 (parts.map fun (i, x) => (i, a.eval x)).toList = some (rowB 32 f)) : YieldsIf Try.prog ops S op (.agg (rowB 32 f)) a :=
  .inl ⟨hw, fun w _ => by
    unfold execOp
    simp only [ho, Sem.run_bind, run_build w _ _ _ hf, Result.andThen_ok, Sem.run_pure]⟩
theorem yieldsM_ne (hw : Region.wanted op (yielded ops a.tmps) = true) (x y : Operand) (ho : op.op = .binOp .neq 25 x y 25) (f g : Nat → BitVec 8)
    (hx : a.eval x = .agg (rowB 32 f)) (hy : a.eval y = .agg (rowB 32 g)) (b : Bool) (hb : eqB f g = !b) : YieldsIf Try.prog ops S op (.bool b) a :=
  .inl ⟨hw, fun w _ => by
    have hg : (eqGuard .neq 25 x y (.agg (rowB 32 f)) (.agg (rowB 32 g))).run Try.prog w = .ok () w := run_eqGuard_agg _ _ _ _ _ _ _ (by kernel_rfl)
    unfold execOp
    simp only [ho, hx, hy, Sem.run_bind, hg, neqNum, hb, Bool.not_not, Result.andThen_ok, Sem.run_pure]⟩
end

theorem checkS_one (f : Nat → BitVec 8) (b : List (BitVec 8)) : checkS f 1 0 b [] = eqB (leafS b) f := by
  unfold checkS
  rw [if_neg (by decide), show (1 : Int).toNat - 1 = 0 from rfl, climb_zero, if_pos rfl]; rfl
theorem checkS_two (f : Nat → BitVec 8) (b : List (BitVec 8)) : checkS f 2 0 b [] = false := by
  unfold checkS
  rw [if_neg (by decide), show (2 : Int).toNat - 1 = 1 from rfl, show (0 : Int).toNat = 0 from rfl, climb_nil _ (by decide) (by decide)]; rfl

theorem zx_words : blocksL (fun i => (pad [0, 120]).getD i 0) ((pad [0, 120]).length / 64) = [0x3c7e9bc9, 0x30dc93f0, 0x1fa69985, 0xef242d9f, 0x9e861f3c, 0x5355aa24, 0xce5ef4b4, 0xb8a70ccb] := by decide +kernel
def zxOut : Nat → BitVec 8 := outOf fun j => ([0x3c7e9bc9, 0x30dc93f0, 0x1fa69985, 0xef242d9f, 0x9e861f3c, 0x5355aa24, 0xce5ef4b4, 0xb8a70ccb] : List (BitVec 32)).getD j 0
theorem zx_num : (List.range 32).map (leafS [120]) = (List.range 32).map zxOut := num_eval [0, 120] _ zx_words
theorem leaf_zero : eqB (leafS [120]) (fun _ => 0) = false := by
  cases hb : eqB (leafS [120]) (fun _ => 0) with
  | false => rfl
  | true =>
    have h0 := eqB_iff.1 hb 0 (by decide)
    have h1 := congrArg (fun l => l.getD 0 0) zx_num
    simp only [List.getD_eq_getElem?_getD, List.getElem?_map] at h1
    have h2 : leafS [120] 0 = zxOut 0 := by simpa using h1
    rw [h0] at h2
    exact absurd h2 (by decide +kernel)

set_option maxRecDepth 100000 in
set_option maxHeartbeats 2000000 in
theorem alive15_any (w : World) : Calls Try.prog 12 #[] w fun e w' => e = .returned (.bool true) ∧ Below w.heap.size w w' := by
  have kc := fun (w : World) (C : Array Value) (n c : Nat) => Lib.run_convert_bytes_const (P := Try.prog) w 22 5 C n c Try.underlying22 Try.underlying5
  go_enter Try.func12, Try.ntmps12
  go_wp2_with fail
  have hs1 : (w.alloc (.cells #[.int .u8 120] 5 (1, 2))).heap.size = w.heap.size + 1 := by simp
  have HB2 := Lib.hid (show Below w.heap.size w ((w.alloc (.cells #[.int .u8 120] 5 (1, 2))).alloc (.cells #[.slice (some ⟨w.heap.size, 0, none⟩) 1 1] 22)) from below_allocS (below_allocS (Below.refl _ _) _) _)
  have HR2 := Lib.hid (show BRow ((w.alloc (.cells #[.int .u8 120] 5 (1, 2))).alloc (.cells #[.slice (some ⟨w.heap.size, 0, none⟩) 1 1] 22)) (.slice (some ⟨w.heap.size, 0, none⟩) 1 1) [120] from (brow_mk (c := 1) [120] (heap_alloc_new w (.cells #[.int .u8 120] 5 (1, 2)))).below (below_allocS (Below.refl _ _) _))
  have HG2 := Lib.hid (show ((w.alloc (.cells #[.int .u8 120] 5 (1, 2))).alloc (.cells #[.slice (some ⟨w.heap.size, 0, none⟩) 1 1] 22)).heap[w.heap.size + 1]? = some (.cells #[.slice (some ⟨w.heap.size, 0, none⟩) 1 1] 22 (0, 0)) from by rw [← hs1]; exact heap_alloc_new _ _)
  clear hs1 kc
  generalize (w.alloc (.cells #[.int .u8 120] 5 (1, 2))).alloc (.cells #[.slice (some ⟨w.heap.size, 0, none⟩) 1 1] 22) = w2 at *
  have HL2 := Lib.hid (brows_one (c := 1) HG2.out HR2.out)
  have hpn : pathS [[120]] 0 = [] := pathS_one 0 (by decide)
  have HPA := Lib.hid (show ∀ w, BRows w (.slice (some ⟨w.heap.size, 0, none⟩) 1 1) [[120]] → True from fun _ _ => trivial)
  obtain ⟨r, hr⟩ : ∃ r, r = leafS [120] := ⟨_, rfl⟩
  have HRT := Lib.hid (show rootS [[120]] = r from by rw [hr]; exact rootS_one _)
  have HC1 := Lib.hid (show checkS r 1 0 [120] [] = true from by rw [checkS_one, hr]; exact eqB_self _)
  have HC2 := Lib.hid (show checkS r 2 0 [120] [] = false from checkS_two _ _)
  have HNZ := Lib.hid (show eqB r (fun _ => 0) = false from by rw [hr]; exact leaf_zero)
  have HZ := Lib.hid (show (Try.prog.info? 25).map (·.size) = some (rowB 32 r).size by rw [size32, rowB_size])
  have hlt2 := (Array.getElem?_eq_some_iff.1 HG2.out).1
  clear hr HPA
  refine (pathc_in [[120]] _ 1 1 0 w2 rfl HL2.out (by decide) (by decide) (by decide) (by decide)).mono ?_
  rintro e w3 ⟨v3, rfl, hown3, hb3⟩
  rw [hpn] at hown3
  obtain ⟨a3, c3, e3⟩ := hown3.nrow.shape
  simp only [List.length_nil] at e3
  subst e3
  have HB3 := Lib.hid (below_keep HB2.out hb3)
  have HL3 := Lib.hid (HL2.out.below hb3)
  have HR3 := Lib.hid (HR2.out.below hb3)
  have HG3 := Lib.hid ((hb3.block _ hlt2).trans HG2.out)
  clear hb3 hown3 hpn hlt2
  go_wp2_with (first
    | (go_at_call 13; refine (root_any 1 [[120]] _ 1 _ rfl HL3.out (by decide) (by decide) (by decide)).mono ?_; rintro e w4 ⟨rfl, hb4⟩; rw [HRT.out])
    | (with_reducible refine wpList_alloc_row rfl 25 rfl 32 _ info32 ?_)
    | ((with_reducible show wpList _ _ _ (⟨_, .store 25 _ _, _, _, _, _⟩ :: _) _ _); refine wpList_store_rowTo rfl 25 _ _ rfl rfl w4.heap.size (rowB 32 r) rfl rfl 25 _ (heap_alloc_new _ _) HZ.out (by rw [row_size, rowB_size]) (rowB_oneCell _ _) ?_))
  have hb5 : Below w3.heap.size w3 ((w4.alloc (.cells (row 32 fun _ => .int .u8 0) 25)).setRow w4.heap.size (rowB 32 r)) := below_setRow (below_allocS hb4 _) hb4.size _
  have HB5 := Lib.hid (below_keep HB3.out hb5)
  have HG5 := Lib.hid (show ((w4.alloc (.cells (row 32 fun _ => .int .u8 0) 25)).setRow w4.heap.size (rowB 32 r)).heap[w4.heap.size]? = some (.cells (rowB 32 r) 25 (0, 0)) from heap_setRow_at (heap_alloc_new _ _))
  have HR5 := Lib.hid (HR3.out.below hb5)
  have HL5 := Lib.hid ((hb5.block _ (Array.getElem?_eq_some_iff.1 HG3.out).1).trans HG3.out)
  clear hb4 hb5
  simp only [Act.put, List.setIfInBounds_toArray, List.set_cons_zero, List.set_cons_succ]
  generalize (w4.alloc (.cells (row 32 fun _ => .int .u8 0) 25)).setRow w4.heap.size (rowB 32 r) = w5 at *
  generalize w4.heap.size = gr at *
  have hrg := range_num HG5.out
  have hu := Try.underlying25
  have hi : (Try.prog.info? 25).map (·.size) = some (rowB 32 r).toList.length := by rw [size32]; simp [rowB_size]
  have hce : ∀ w', Below w5.heap.size w5 w' → w'.cell? ⟨w.heap.size + 1, 0, none⟩ = some (.slice (some ⟨w.heap.size, 0, none⟩) 1 1) := fun w' hb => by
    rw [cell_of_row w' _ 0 _ _ _ ((hb.block _ (Array.getElem?_eq_some_iff.1 HL5.out).1).trans HL5.out)]; rfl
  refine wp_region_plan (S := fun w' => Below w5.heap.size w5 w') [0, 1, 2, 3, 4, 5, 6, 7, 8, 9, 10, 11, 12, 13, 14, 15, 16, 17, 18, 19, 20, 21, 22, 23, 24, 25, 26] [true, true, true, true, true, true, true, true, true, true, true, false, true, true, true, true, true, true, false, true, true, true, true, true, true, true, true] (by kernel_rfl) (by kernel_rfl) (Below.refl _ _).drew (fun hHeld => ?_)
  simp only [List.filterMap_cons, List.filterMap_nil, List.getElem?_toArray, List.getElem?_cons_zero, List.getElem?_cons_succ]
  refine seqH_take (v := ?_) (Or.inl ⟨by rfl, ?_⟩) ?_
  rotate_left
  · (intro w hSw; go_simp; first | done | with_reducible rfl)
  try simp only [Act.put, List.setIfInBounds_toArray, List.set_cons_zero, List.set_cons_succ]
  refine seqH_take (v := ?_) (Or.inl ⟨by rfl, ?_⟩) ?_
  rotate_left
  · (intro w hSw; go_simp; first | done | with_reducible rfl)
  try simp only [Act.put, List.setIfInBounds_toArray, List.set_cons_zero, List.set_cons_succ]
  refine seqH_take (v := ?_) (Or.inl ⟨by rfl, ?_⟩) ?_
  rotate_left
  · (intro w hSw; go_simp; first | done | with_reducible rfl)
  try simp only [Act.put, List.setIfInBounds_toArray, List.set_cons_zero, List.set_cons_succ]
  refine seqH_take (v := ?_) (Or.inl ⟨by rfl, ?_⟩) ?_
  rotate_left
  · (intro w hSw; go_simp; first | done | with_reducible rfl)
  try simp only [Act.put, List.setIfInBounds_toArray, List.set_cons_zero, List.set_cons_succ]
  refine seqH_take (v := ?_) (Or.inl ⟨by rfl, ?_⟩) ?_
  rotate_left
  · (intro w hSw; go_simp; first | done | with_reducible rfl)
  try simp only [Act.put, List.setIfInBounds_toArray, List.set_cons_zero, List.set_cons_succ]
  refine seqH_take (v := ?_) (Or.inl ⟨by rfl, ?_⟩) ?_
  rotate_left
  · (intro w hSw; go_simp; first | done | with_reducible rfl)
  try simp only [Act.put, List.setIfInBounds_toArray, List.set_cons_zero, List.set_cons_succ]
  refine seqH_take (v := ?_) (Or.inl ⟨by rfl, ?_⟩) ?_
  rotate_left
  · (intro w hSw; go_simp; first | done | with_reducible rfl)
  try simp only [Act.put, List.setIfInBounds_toArray, List.set_cons_zero, List.set_cons_succ]
  refine seqH_take (yieldsIf_load_mid (by rfl) _ _ rfl _ _ rfl _ _ (fun w hw => hrg w hw) hu rfl hi) ?_
  try simp only [Act.put, List.setIfInBounds_toArray, List.set_cons_zero, List.set_cons_succ, rowB_back]
  refine seqH_take (v := ?_) (Or.inl ⟨by rfl, ?_⟩) ?_
  rotate_left
  · (intro w hSw; go_simp; first | done | with_reducible rfl)
  try simp only [Act.put, List.setIfInBounds_toArray, List.set_cons_zero, List.set_cons_succ]
  refine seqH_take (v := ?_) (Or.inl ⟨by rfl, ?_⟩) ?_
  rotate_left
  · (intro w hSw; go_simp; first | done | with_reducible rfl)
  try simp only [Act.put, List.setIfInBounds_toArray, List.set_cons_zero, List.set_cons_succ]
  refine seqH_take (v := ?_) (Or.inl ⟨by rfl, ?_⟩) ?_
  rotate_left
  · (intro w hSw; go_simp; first | done | with_reducible rfl)
  try simp only [Act.put, List.setIfInBounds_toArray, List.set_cons_zero, List.set_cons_succ]
  refine seqH_go (fun K hK => ?_)
  rw [if_pos (by rfl)]
  go_simp
  refine (check_any r 1 0 _ none 1 0 0 [120] [] _ (HR5.out.below hHeld) (by decide) (nrow_nil _) rfl (Nat.le_refl _)).mono ?_; rintro e w6 ⟨rfl, hbc⟩; rw [HC1.out]
  try dsimp only
  refine hK.out _ _ (below_keep hHeld hbc) (fun hHeld2 => ?_)
  clear hK K hHeld
  have hHeld := hHeld2
  clear hHeld2
  try simp only [Act.put, List.setIfInBounds_toArray, List.set_cons_zero, List.set_cons_succ]
  refine seqH_take (v := ?_) (Or.inl ⟨by rfl, ?_⟩) ?_
  rotate_left
  · (intro w hSw; go_simp; first | done | with_reducible rfl)
  try simp only [Act.put, List.setIfInBounds_toArray, List.set_cons_zero, List.set_cons_succ]
  refine seqH_take (v := ?_) (Or.inl ⟨by rfl, ?_⟩) ?_
  rotate_left
  · (intro w hSw; go_simp; first | done | with_reducible rfl)
  try simp only [Act.put, List.setIfInBounds_toArray, List.set_cons_zero, List.set_cons_succ]
  refine seqH_take (yieldsIf_load_mid (by rfl) _ _ rfl _ _ rfl _ _ (fun w hw => hrg w hw) hu rfl hi) ?_
  try simp only [Act.put, List.setIfInBounds_toArray, List.set_cons_zero, List.set_cons_succ, rowB_back]
  refine seqH_take (v := ?_) (Or.inl ⟨by rfl, ?_⟩) ?_
  rotate_left
  · (intro w hSw; go_simp; first | done | with_reducible rfl)
  try simp only [Act.put, List.setIfInBounds_toArray, List.set_cons_zero, List.set_cons_succ]
  refine seqH_take (v := ?_) (Or.inl ⟨by rfl, ?_⟩) ?_
  rotate_left
  · (intro w hSw; go_simp; first | done | with_reducible rfl)
  try simp only [Act.put, List.setIfInBounds_toArray, List.set_cons_zero, List.set_cons_succ]
  refine seqH_take (v := ?_) (Or.inl ⟨by rfl, ?_⟩) ?_
  rotate_left
  · (intro w hSw; go_simp; first | done | with_reducible rfl)
  try simp only [Act.put, List.setIfInBounds_toArray, List.set_cons_zero, List.set_cons_succ]
  refine seqH_go (fun K hK => ?_)
  rw [if_pos (by rfl)]
  go_simp
  refine (check_any r 2 0 _ none 1 0 0 [120] [] _ (HR5.out.below hHeld) (by decide) (nrow_nil _) rfl (Nat.le_refl _)).mono ?_; rintro e w7 ⟨rfl, hbc⟩; rw [HC2.out]
  try dsimp only
  refine hK.out _ _ (below_keep hHeld hbc) (fun hHeld2 => ?_)
  clear hK K hHeld
  have hHeld := hHeld2
  clear hHeld2
  try simp only [Act.put, List.setIfInBounds_toArray, List.set_cons_zero, List.set_cons_succ]
  refine seqH_take (v := ?_) (Or.inl ⟨by rfl, ?_⟩) ?_
  rotate_left
  · (intro w hSw; go_simp; first | done | with_reducible rfl)
  try simp only [Act.put, List.setIfInBounds_toArray, List.set_cons_zero, List.set_cons_succ]
  refine seqH_take (v := ?_) (Or.inl ⟨by rfl, ?_⟩) ?_
  rotate_left
  · (intro w hSw; go_simp; first | done | with_reducible rfl)
  try simp only [Act.put, List.setIfInBounds_toArray, List.set_cons_zero, List.set_cons_succ]
  refine seqH_take (v := ?_) (Or.inl ⟨by rfl, ?_⟩) ?_
  rotate_left
  · (intro w hSw; go_simp; first | done | with_reducible rfl)
  try simp only [Act.put, List.setIfInBounds_toArray, List.set_cons_zero, List.set_cons_succ]
  refine seqH_take (yieldsIf_load_mid (by rfl) _ _ rfl _ _ rfl _ _ (fun w hw => hrg w hw) hu rfl hi) ?_
  try simp only [Act.put, List.setIfInBounds_toArray, List.set_cons_zero, List.set_cons_succ, rowB_back]
  refine seqH_take (yieldsM_build (by rfl) #[] rfl (fun _ => 0) (by kernel_rfl)) ?_
  try simp only [Act.put, List.setIfInBounds_toArray, List.set_cons_zero, List.set_cons_succ]
  refine seqH_take (yieldsM_ne (by rfl) _ _ rfl r (fun _ => 0) rfl rfl true HNZ.out) ?_
  try simp only [Act.put, List.setIfInBounds_toArray, List.set_cons_zero, List.set_cons_succ]
  refine seqH_take (v := ?_) (Or.inl ⟨by rfl, ?_⟩) ?_
  rotate_left
  · (intro w hSw; go_simp; first | done | with_reducible rfl)
  try simp only [Act.put, List.setIfInBounds_toArray, List.set_cons_zero, List.set_cons_succ]
  refine seqH_take (v := ?_) (Or.inl ⟨by rfl, ?_⟩) ?_
  rotate_left
  · (intro w hSw; go_simp; first | done | with_reducible rfl)
  try simp only [Act.put, List.setIfInBounds_toArray, List.set_cons_zero, List.set_cons_succ]
  refine seqH_nil (NoPanic.normal ?_)
  clear hrg hu hi hce
  go_wp2
  go_ret
  exact ⟨rfl, below_keep HB5.out hHeld⟩

end Go.Proofs.Ytnnllficjljjkaa
