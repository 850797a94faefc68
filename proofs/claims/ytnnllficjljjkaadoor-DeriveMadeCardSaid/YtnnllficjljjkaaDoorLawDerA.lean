/-
  The example of chapter 8, and the walks of its laws: the keys of names.
-/
import Derived.Test.YtnnllficjljjkaaDoorKey
import Derived.Test.YtnnllficjljjkaaDoorNums
import Derived.ChangeMaps5
namespace Go.Proofs.YtnnllficjljjkaaDoor
open Go.RowKit
set_option linter.unusedVariables false
set_option linter.unusedSimpArgs false

section
variable {ops : Array Oper} {S : World → Prop} {op : Oper} {a : Act}
theorem yieldsIf_buildNum (hw : Region.wanted op (yielded ops a.tmps) = true) (parts : Array (Nat × Operand)) (ho : op.op = .build 28 parts) (f : Nat → BitVec 8)
    (hf : Tryd.prog.built 28 (parts.map fun (i, x) => (i, a.eval x)).toList = some (rowB 32 f)) : YieldsIf Tryd.prog ops S op (.agg (rowB 32 f)) a :=
  .inl ⟨hw, fun w _ => by
    unfold execOp
    simp only [ho, Sem.run_bind, run_build w _ _ _ hf, Result.andThen_ok, Sem.run_pure]⟩
theorem yieldsIf_eqNum (hw : Region.wanted op (yielded ops a.tmps) = true) (x y : Operand) (ho : op.op = .binOp .eql 28 x y 28) (f g : Nat → BitVec 8)
    (hx : a.eval x = .agg (rowB 32 f)) (hy : a.eval y = .agg (rowB 32 g)) (b : Bool) (hb : eqB f g = b) : YieldsIf Tryd.prog ops S op (.bool b) a :=
  .inl ⟨hw, fun w _ => by
    have hg : (eqGuard .eql 28 x y (.agg (rowB 32 f)) (.agg (rowB 32 g))).run Tryd.prog w = .ok () w := run_eqGuard_agg _ _ _ _ _ _ _ (by kernel_rfl)
    unfold execOp
    simp only [ho, hx, hy, Sem.run_bind, hg, eqlNum, hb, Result.andThen_ok, Sem.run_pure]⟩
theorem yieldsIf_neNum (hw : Region.wanted op (yielded ops a.tmps) = true) (x y : Operand) (ho : op.op = .binOp .neq 28 x y 28) (f g : Nat → BitVec 8)
    (hx : a.eval x = .agg (rowB 32 f)) (hy : a.eval y = .agg (rowB 32 g)) (b : Bool) (hb : eqB f g = !b) : YieldsIf Tryd.prog ops S op (.bool b) a :=
  .inl ⟨hw, fun w _ => by
    have hg : (eqGuard .neq 28 x y (.agg (rowB 32 f)) (.agg (rowB 32 g))).run Tryd.prog w = .ok () w := run_eqGuard_agg _ _ _ _ _ _ _ (by kernel_rfl)
    unfold execOp
    simp only [ho, hx, hy, Sem.run_bind, hg, neqNum, hb, Bool.not_not, Result.andThen_ok, Sem.run_pure]⟩
theorem yieldsIf_str (hw : Region.wanted op (yielded ops a.tmps) = true) (x : Operand) (ho : op.op = .convert 25 9 x) (l : List (BitVec 8))
    (hx : ∀ w, S w → BRow w (a.eval x) l) : YieldsIf Tryd.prog ops S op (.string (strB l)) a :=
  .inl ⟨hw, fun w hw' => by
    have hs := run_string (P := Tryd.prog) (hx w hw') Tryd.underlying25 Tryd.underlying5 Tryd.underlying9
    unfold execOp
    simp only [ho, Sem.run_bind, hs, Result.andThen_ok, Sem.run_pure]⟩
end

theorem num8_any (x : Int) (w : World) : Calls Tryd.prog 38 #[.int .i64 x] w fun e w' => e = .returned (.int .i64 x) ∧ w = w' := by
  go_enter Tryd.func38, Tryd.ntmps38
  go_wp2
  go_ret
  exact ⟨rfl, rfl⟩

/-! ### The example's key -/
def exKey : List (BitVec 8) := [1, 0, 0, 0, 0, 0, 0, 0, 0, 0, 0, 0, 0, 0, 0, 0, 0, 0, 0, 0, 0, 0, 0, 0, 0, 0, 0, 0, 0, 0, 0, 0]
def exMsg : List (BitVec 8) := [120, 1]
theorem exKey_one : (List.range 32).map (oneB 1) = exKey := by decide
theorem ex_in : blocksL (fun i => (pad (padK exKey 54 ++ exMsg)).getD i 0) ((pad (padK exKey 54 ++ exMsg)).length / 64) = [0x0c5c0da6, 0xa40e1dad, 0x1d42603d, 0x5e9dcfba, 0x0780055e, 0x90b62d02, 0x452d4b0e, 0xd66ac3bb] := by decide +kernel
def exIn : Nat → BitVec 8 := outOf fun j => ([0x0c5c0da6, 0xa40e1dad, 0x1d42603d, 0x5e9dcfba, 0x0780055e, 0x90b62d02, 0x452d4b0e, 0xd66ac3bb] : List (BitVec 32)).getD j 0
theorem ex_out : blocksL (fun i => (pad (padK exKey 92 ++ (List.range 32).map exIn)).getD i 0) ((pad (padK exKey 92 ++ (List.range 32).map exIn)).length / 64) = [0xed845717, 0x7ca30961, 0xb53972eb, 0xdacc3ffa, 0x98f2aa15, 0x0fa50ace, 0xf85aabb5, 0xf4ee6076] := by decide +kernel
def exOut : Nat → BitVec 8 := outOf fun j => ([0xed845717, 0x7ca30961, 0xb53972eb, 0xdacc3ffa, 0x98f2aa15, 0x0fa50ace, 0xf85aabb5, 0xf4ee6076] : List (BitVec 32)).getD j 0
theorem ex_mac : (List.range 32).map (macS exKey exMsg) = (List.range 32).map exOut := by
  unfold macS
  rw [keyS_short (by decide), num_eval (padK exKey 54 ++ exMsg) _ ex_in]
  exact num_eval (padK exKey 92 ++ (List.range 32).map exIn) _ ex_out
theorem ex_zero : eqB (keyF (oneB 1) [120]) (fun _ => 0) = false := by
  have h : keyF (oneB 1) [120] = macS exKey exMsg := by unfold keyF; rw [exKey_one]; rfl
  cases hb : eqB (keyF (oneB 1) [120]) (fun _ => 0) with
  | false => rfl
  | true =>
    have h0 := eqB_iff.1 hb 0 (by decide)
    have h1 := congrArg (fun l => l.getD 0 0) ex_mac
    simp only [List.getD_eq_getElem?_getD, List.getElem?_map] at h1
    rw [h] at h0
    have h2 : macS exKey exMsg 0 = exOut 0 := by simpa using h1
    rw [h0] at h2
    exact absurd h2 (by decide +kernel)

set_option maxRecDepth 100000 in
set_option maxHeartbeats 1000000 in
theorem alive8_any (w : World) (hka : KAt w) : Calls Tryd.prog 34 #[] w fun e w' => e = .returned (.bool true) ∧ Below w.heap.size w w' := by
  have HK := Lib.hid hka
  obtain ⟨k, hk⟩ : ∃ k, k = keyF (oneB 1) [120] := ⟨_, rfl⟩
  have HNZ := Lib.hid (show eqB k (fun _ => 0) = false by rw [hk]; exact ex_zero)
  have hkey : ∀ w, Calls Tryd.prog 35 #[.agg (rowB 32 (oneB 1)), .string { data := #[120] }] w fun e w' => e = .returned (.agg (rowB 32 k)) ∧ Below w.heap.size w w' := fun w => by
    rw [hk]; exact key_any (oneB 1) [120] w (by decide)
  have hkey2 : ∀ w, KAt w → Calls Tryd.prog 36 #[.agg (rowB 32 (oneB 1)), .string { data := #[120] }] w fun e w' => e = .returned (.agg (rowB 32 k)) ∧ Below w.heap.size w w' := fun w hka => by
    rw [hk]; exact refKey_any (oneB 1) [120] w (by decide) hka
  have HKEY := Lib.hid hkey
  have HKEY2 := Lib.hid hkey2
  have hnil : ∀ w, BRow w (.slice none 0 0) [] := fun w => ⟨none, 0, rfl, fun _ => rfl, fun h => absurd h (by simp)⟩
  have HNIL := Lib.hid hnil
  have HZ := Lib.hid (show (Tryd.prog.info? 28).map (·.size) = some (rowB 32 k).size by rw [size32, rowB_size])
  clear hka hk hkey hkey2 hnil
  go_enter Tryd.func34, Tryd.ntmps34
  go_wp2_with (first
    | (refine wpList_buildTo rfl 28 #[(0, .const (.int .u8 1))] rfl _ rfl (rowB 32 (oneB 1)) (by kernel_rfl) ?_)
    | (go_at_call 37; refine (expand_any (oneB 1) _ [] 0 _ (HNIL.out _) (by decide) (by decide)).mono ?_; rintro e w1 ⟨⟨a1, rfl, hr1⟩, hb1⟩)
    | (go_at_call 35; refine (HKEY.out _).mono ?_; rintro e w2 ⟨rfl, hb2⟩)
    | (with_reducible refine wpList_alloc_row rfl 28 rfl 32 _ info32 ?_)
    | ((with_reducible show wpList _ _ _ (⟨_, .store 28 _ _, _, _, _, _⟩ :: _) _ _); refine wpList_store_rowTo rfl 28 _ _ rfl rfl w2.heap.size (rowB 32 k) rfl rfl 28 _ (heap_alloc_new _ _) HZ.out (by rw [row_size, rowB_size]) (rowB_oneCell _ _) ?_))
  have HB3 := Lib.hid (show Below w.heap.size w ((w2.alloc (.cells (row 32 fun _ => .int .u8 0) 28)).setRow w2.heap.size (rowB 32 k)) from below_setRow (below_allocS (below_keep hb1 hb2) _) (by have := (below_keep hb1 hb2).size; omega) _)
  have HG3 := Lib.hid (show ((w2.alloc (.cells (row 32 fun _ => .int .u8 0) 28)).setRow w2.heap.size (rowB 32 k)).heap[w2.heap.size]? = some (.cells (rowB 32 k) 28 (0, 0)) from heap_setRow_at (heap_alloc_new _ _))
  clear hb1 hb2 hr1
  simp only [Act.put, List.setIfInBounds_toArray, List.set_cons_zero, List.set_cons_succ]
  generalize (w2.alloc (.cells (row 32 fun _ => .int .u8 0) 28)).setRow w2.heap.size (rowB 32 k) = W at *
  generalize w2.heap.size = g at *
  have hrg := range_num HG3.out
  have hu := Tryd.underlying28
  have hi : (Tryd.prog.info? 28).map (·.size) = some (rowB 32 k).toList.length := by rw [size32]; simp [rowB_size]
  refine wp_region_plan (S := fun w' => Below W.heap.size W w') [0, 1, 2, 3, 4, 5, 6, 7, 8, 9, 10, 11, 12, 13, 14, 15, 16, 17, 18, 19] [true, false, true, true, true, true, true, true, true, true, true, true, true, true, true, true, false, true, true, true] (by kernel_rfl) (by kernel_rfl) (Below.refl _ _).drew (fun hHeld => ?_)
  simp only [List.filterMap_cons, List.filterMap_nil, List.getElem?_toArray, List.getElem?_cons_zero, List.getElem?_cons_succ]
  refine seqH_take (v := ?_) (Or.inl ⟨by rfl, ?_⟩) ?_
  rotate_left
  · (intro w hSw; go_simp; first | done | with_reducible rfl)
  try simp only [Act.put, List.setIfInBounds_toArray, List.set_cons_zero, List.set_cons_succ]
  refine seqH_go (fun K hK => ?_)
  rw [if_pos (by rfl)]
  go_simp
  refine (num8_any 0 _).mono ?_; rintro e w4 ⟨rfl, rfl⟩
  try dsimp only
  refine hK.out _ _ hHeld (fun hHeld2 => ?_)
  clear hK K hHeld
  have hHeld := hHeld2
  clear hHeld2
  try simp only [Act.put, List.setIfInBounds_toArray, List.set_cons_zero, List.set_cons_succ]
  refine seqH_take (v := ?_) (Or.inl ⟨by rfl, ?_⟩) ?_
  rotate_left
  · (intro w hSw; go_simp; first | done | with_reducible rfl)
  try simp only [Act.put, List.setIfInBounds_toArray, List.set_cons_zero, List.set_cons_succ]
  refine seqH_take (v := ?_) (Or.inl ⟨by rfl, ?_⟩) ?_
  rotate_left
  · (intro w hSw; go_simp; first | done | with_reducible rfl)
  try simp only [Act.put, List.setIfInBounds_toArray, List.set_cons_zero, List.set_cons_succ]
  refine seqH_take (v := ?_) (Or.inl ⟨by rfl, ?_⟩) ?_
  rotate_left
  · (intro w hSw; go_simp; first | done | with_reducible rfl)
  try simp only [Act.put, List.setIfInBounds_toArray, List.set_cons_zero, List.set_cons_succ]
  refine seqH_take (v := ?_) (Or.inl ⟨by rfl, ?_⟩) ?_
  rotate_left
  · (intro w hSw; go_simp; first | done | with_reducible rfl)
  try simp only [Act.put, List.setIfInBounds_toArray, List.set_cons_zero, List.set_cons_succ]
  refine seqH_take (v := ?_) (Or.inl ⟨by rfl, ?_⟩) ?_
  rotate_left
  · (intro w hSw; go_simp; first | done | with_reducible rfl)
  try simp only [Act.put, List.setIfInBounds_toArray, List.set_cons_zero, List.set_cons_succ]
  refine seqH_take (v := ?_) (Or.inl ⟨by rfl, ?_⟩) ?_
  rotate_left
  · (intro w hSw; go_simp; first | done | with_reducible rfl)
  try simp only [Act.put, List.setIfInBounds_toArray, List.set_cons_zero, List.set_cons_succ]
  refine seqH_take (v := ?_) (Or.inl ⟨by rfl, ?_⟩) ?_
  rotate_left
  · (intro w hSw; go_simp; first | done | with_reducible rfl)
  try simp only [Act.put, List.setIfInBounds_toArray, List.set_cons_zero, List.set_cons_succ]
  refine seqH_take (yieldsIf_load_mid (by rfl) _ _ rfl _ _ rfl _ _ (fun w hw => hrg w hw) hu rfl hi) ?_
  try simp only [Act.put, List.setIfInBounds_toArray, List.set_cons_zero, List.set_cons_succ, rowB_back]
  refine seqH_take (yieldsIf_buildNum (by rfl) #[] rfl (fun _ => 0) (by kernel_rfl)) ?_
  try simp only [Act.put, List.setIfInBounds_toArray, List.set_cons_zero, List.set_cons_succ]
  refine seqH_take (yieldsIf_neNum (by rfl) _ _ rfl k (fun _ => 0) rfl rfl true HNZ.out) ?_
  try simp only [Act.put, List.setIfInBounds_toArray, List.set_cons_zero, List.set_cons_succ]
  refine seqH_take (v := ?_) (Or.inl ⟨by rfl, ?_⟩) ?_
  rotate_left
  · (intro w hSw; go_simp; first | done | with_reducible rfl)
  try simp only [Act.put, List.setIfInBounds_toArray, List.set_cons_zero, List.set_cons_succ]
  refine seqH_take (v := ?_) (Or.inl ⟨by rfl, ?_⟩) ?_
  rotate_left
  · (intro w hSw; go_simp; first | done | with_reducible rfl)
  try simp only [Act.put, List.setIfInBounds_toArray, List.set_cons_zero, List.set_cons_succ]
  refine seqH_take (yieldsIf_load_mid (by rfl) _ _ rfl _ _ rfl _ _ (fun w hw => hrg w hw) hu rfl hi) ?_
  try simp only [Act.put, List.setIfInBounds_toArray, List.set_cons_zero, List.set_cons_succ, rowB_back]
  refine seqH_take (yieldsIf_buildNum (by rfl) #[(0, .const (.int .u8 1))] rfl (oneB 1) (by kernel_rfl)) ?_
  try simp only [Act.put, List.setIfInBounds_toArray, List.set_cons_zero, List.set_cons_succ]
  refine seqH_go (fun K hK => ?_)
  rw [if_pos (by rfl)]
  go_simp
  refine (HKEY2.out _ (HK.out.below (below_keep HB3.out hHeld))).mono ?_; rintro e w5 ⟨rfl, hbc⟩
  try dsimp only
  refine hK.out _ _ (below_keep hHeld hbc) (fun hHeld2 => ?_)
  clear hK K hHeld
  have hHeld := hHeld2
  clear hHeld2
  try simp only [Act.put, List.setIfInBounds_toArray, List.set_cons_zero, List.set_cons_succ]
  refine seqH_take (yieldsIf_eqNum (by rfl) _ _ rfl k k rfl rfl true (eqB_self k)) ?_
  try simp only [Act.put, List.setIfInBounds_toArray, List.set_cons_zero, List.set_cons_succ]
  refine seqH_take (v := ?_) (Or.inl ⟨by rfl, ?_⟩) ?_
  rotate_left
  · (intro w hSw; go_simp; first | done | with_reducible rfl)
  try simp only [Act.put, List.setIfInBounds_toArray, List.set_cons_zero, List.set_cons_succ]
  refine seqH_take (v := ?_) (Or.inl ⟨by rfl, ?_⟩) ?_
  rotate_left
  · (intro w hSw; go_simp; first | done | with_reducible rfl)
  try simp only [Act.put, List.setIfInBounds_toArray, List.set_cons_zero, List.set_cons_succ]
  refine seqH_nil (NoPanic.normal ?_)
  clear hrg hu hi
  go_wp2
  go_ret
  exact ⟨rfl, below_keep HB3.out hHeld⟩

theorem strB_size (l : List (BitVec 8)) : (strB l).size = l.length := by simp [strB, ByteArray.size]

set_option maxRecDepth 100000 in
set_option maxHeartbeats 1000000 in
theorem deriveKeys_in (f : Nat → BitVec 8) (name : List (BitVec 8)) (w : World) (hn : name.length ≤ 500) (hka : KAt w) :
    Calls Tryd.prog 12 #[.agg (rowB 32 f), .string (strB name)] w fun e w' => e = .returned (.bool true) ∧ Below w.heap.size w w' := by
  have hz1 : ((500 : Int) < ((strB name).size : Int)) = False := eq_false (by rw [strB_size]; omega)
  have HN := Lib.hid hn
  have HK := Lib.hid hka
  have hk1 := fun w => key_any f name w (by omega)
  have hk2 := fun w hka => refKey_any f name w (by omega) hka
  obtain ⟨k, hk⟩ : ∃ k, k = keyF f name := ⟨_, rfl⟩
  rw [← hk] at hk1 hk2
  have HK1 := Lib.hid hk1
  have HK2 := Lib.hid hk2
  have HB1 := Lib.hid (show Below w.heap.size w (w.alloc (.cells (rowB 32 f) 28)) from below_allocS (Below.refl _ _) _)
  have HF1 := Lib.hid (show (w.alloc (.cells (rowB 32 f) 28)).heap[w.heap.size]? = some (.cells (rowB 32 f) 28 (0, 0)) from heap_alloc_new _ _)
  have HKA := Lib.hid (HK.out.below HB1.out)
  clear hn hka hk hk1 hk2
  generalize hww : w.alloc (.cells (rowB 32 f) 28) = w1 at *
  have HWW := Lib.hid hww
  clear hww
  go_enter Tryd.func12, Tryd.ntmps12
  go_wp2_with (first
    | (go_at_call 34; rw [HWW.out]; refine (alive8_any _ HKA.out).mono ?_; rintro e w2 ⟨rfl, hb2⟩))
  have hrg := range_num ((hb2.block _ (Array.getElem?_eq_some_iff.1 HF1.out).1).trans HF1.out)
  have hu := Tryd.underlying28
  have hi : (Tryd.prog.info? 28).map (·.size) = some (rowB 32 f).toList.length := by rw [size32]; simp [rowB_size]
  have HB2 := Lib.hid hb2
  clear hb2
  refine wp_region_plan (S := fun w' => Below w2.heap.size w2 w') [0, 1, 3, 4, 2, 5, 6, 7] [true, true, true, true, false, false, true, true] (by kernel_rfl) (by kernel_rfl) (Below.refl _ _).drew (fun hHeld => ?_)
  simp only [List.filterMap_cons, List.filterMap_nil, List.getElem?_toArray, List.getElem?_cons_zero, List.getElem?_cons_succ]
  refine seqH_take (yieldsIf_load_mid (by rfl) _ _ rfl _ _ rfl _ _ (fun w hw => hrg w hw) hu rfl hi) ?_
  try simp only [Act.put, List.setIfInBounds_toArray, List.set_cons_zero, List.set_cons_succ, rowB_back]
  refine seqH_take (v := ?_) (Or.inl ⟨by rfl, ?_⟩) ?_
  rotate_left
  · (intro w hSw; go_simp; first | done | with_reducible rfl)
  try simp only [Act.put, List.setIfInBounds_toArray, List.set_cons_zero, List.set_cons_succ]
  refine seqH_take (yieldsIf_load_mid (by rfl) _ _ rfl _ _ rfl _ _ (fun w hw => hrg w hw) hu rfl hi) ?_
  try simp only [Act.put, List.setIfInBounds_toArray, List.set_cons_zero, List.set_cons_succ, rowB_back]
  refine seqH_take (v := ?_) (Or.inl ⟨by rfl, ?_⟩) ?_
  rotate_left
  · (intro w hSw; go_simp; first | done | with_reducible rfl)
  try simp only [Act.put, List.setIfInBounds_toArray, List.set_cons_zero, List.set_cons_succ]
  refine seqH_go (fun K hK => ?_)
  rw [if_pos (by rfl)]
  go_simp
  refine (HK1.out _).mono ?_; rintro e w4 ⟨rfl, hbc⟩
  try dsimp only
  refine hK.out _ _ (below_keep hHeld hbc) (fun hHeld2 => ?_)
  clear hK K hHeld
  have hHeld := hHeld2
  clear hHeld2
  try simp only [Act.put, List.setIfInBounds_toArray, List.set_cons_zero, List.set_cons_succ]
  refine seqH_go (fun K hK => ?_)
  rw [if_pos (by rfl)]
  go_simp
  refine (HK2.out _ (HKA.out.below (below_keep HB2.out hHeld))).mono ?_; rintro e w5 ⟨rfl, hbc⟩
  try dsimp only
  refine hK.out _ _ (below_keep hHeld hbc) (fun hHeld2 => ?_)
  clear hK K hHeld
  have hHeld := hHeld2
  clear hHeld2
  try simp only [Act.put, List.setIfInBounds_toArray, List.set_cons_zero, List.set_cons_succ]
  refine seqH_take (yieldsIf_eqNum (by rfl) _ _ rfl k k rfl rfl true (eqB_self k)) ?_
  try simp only [Act.put, List.setIfInBounds_toArray, List.set_cons_zero, List.set_cons_succ]
  refine seqH_take (v := ?_) (Or.inl ⟨by rfl, ?_⟩) ?_
  rotate_left
  · (intro w hSw; go_simp; first | done | with_reducible rfl)
  try simp only [Act.put, List.setIfInBounds_toArray, List.set_cons_zero, List.set_cons_succ]
  refine seqH_nil (NoPanic.normal ?_)
  clear hrg hu hi
  go_wp2
  go_ret
  exact ⟨rfl, below_keep HB1.out (below_keep HB2.out hHeld)⟩

set_option maxHeartbeats 400000 in
theorem deriveKeys_out (f : Nat → BitVec 8) (s : ByteArray) (w : World) (hn : 500 < s.size) (hka : KAt w) :
    Calls Tryd.prog 12 #[.agg (rowB 32 f), .string s] w fun e w' => e = .returned (.bool true) ∧ Below w.heap.size w w' := by
  have hz1 : ((500 : Int) < (s.size : Int)) = True := eq_true (by omega)
  have HB1 := Lib.hid (show Below w.heap.size w (w.alloc (.cells (rowB 32 f) 28)) from below_allocS (Below.refl _ _) _)
  have HKA := Lib.hid (hka.below HB1.out)
  clear hn hka
  go_enter Tryd.func12, Tryd.ntmps12
  go_wp2_with (go_at_call 34; refine (alive8_any _ HKA.out).mono ?_; rintro e w2 ⟨rfl, hb2⟩)
  go_ret
  exact ⟨rfl, below_keep HB1.out hb2⟩
theorem open_str {H : Type} {enc : TypeId × Value → H} {P : Program} {w : World} {base : Nat} {spare : Nat → Bool} {held : Bool} {r : Reach} {b0 : Nat} {t : TypeId} {v : Value} {d : DataW H} {ps : List MemPlace} (ht : P.underlying t = some .string)
    (hval : Value.okWide P w r b0 t v) (hd : DataW.Trod enc P w base spare held t v d ps) : ∃ s : ByteArray, v = .string s ∧ s.size ≤ maxLen := by
  obtain ⟨s, h1, _, _, h2⟩ := Go.ChangeMaps.open_string ht hval hd
  exact ⟨s, h1, h2⟩

theorem deriveKeys_walk {w : World} (f : Nat → BitVec 8) (s : ByteArray) (_hs : s.size ≤ maxLen) (hk : KAt w) :
    Calls Tryd.prog 12 #[.agg (rowB 32 f), .string s] w fun e w' => e = .returned (.bool true) ∧ Below w.heap.size w w' := by
  by_cases h : 500 < s.size
  · exact deriveKeys_out f s w h hk
  · rw [← strB_bytesOf s]
    exact deriveKeys_in f (bytesOf s) w (by rw [bytesOf_length]; omega) hk

end Go.Proofs.YtnnllficjljjkaaDoor
