/-
  The walk of the law MerkleChecks.
-/
import Derived.Test.YtnnllficjljjkaaDoorRefUp
import Derived.Test.YtnnllficjljjkaaDoorLawMkR
namespace Go.Proofs.YtnnllficjljjkaaDoor
open Go.RowKit
set_option linter.unusedVariables false
set_option linter.unusedSimpArgs false

set_option maxRecDepth 100000 in
set_option maxHeartbeats 2000000 in
theorem merkleChecks_out (f : Nat → BitVec 8) (n i : Int) (B A : Option Addr) (L cb P c : Nat) (w : World) (h : ¬ (L ≤ 1000 ∧ P ≤ 60)) :
    Calls Tryd.prog 19 #[.agg (rowB 32 f), .int .i64 n, .int .i64 i, .slice B L cb, .slice A P c] w fun e w' => e = .returned (.bool true) ∧ Below w.heap.size w w' := by
  have HBA := Lib.hid (show Below w.heap.size w (w.alloc (.cells (rowB 32 f) 28)) from below_allocS (Below.refl _ _) _)
  by_cases h1 : 1000 < L
  · have h1' : (1000 : Int) < (L : Int) := by omega
    clear h
    go_enter Tryd.func19, Tryd.ntmps19
    go_wp2_with (go_at_call 42; refine (alive15_any _).mono ?_; rintro e w1 ⟨rfl, hb1⟩)
    go_ret
    exact ⟨rfl, below_keep HBA.out hb1⟩
  · have h1' : ¬ (1000 : Int) < (L : Int) := by omega
    have h2' : (60 : Int) < (P : Int) := by omega
    clear h
    go_enter Tryd.func19, Tryd.ntmps19
    go_wp2_with (go_at_call 42; refine (alive15_any _).mono ?_; rintro e w1 ⟨rfl, hb1⟩)
    go_ret
    exact ⟨rfl, below_keep HBA.out hb1⟩

set_option maxRecDepth 100000 in
set_option maxHeartbeats 2000000 in
theorem merkleChecks_in (f : Nat → BitVec 8) (n i : Int) (B A : Option Addr) (cb P c : Nat) (b : List (BitVec 8)) (p : List (Nat → BitVec 8)) (w : World) (hb : BRow w (.slice B b.length cb) b) (hp : NRow w (.slice A P c) p) (hP : P = p.length) (hc : P ≤ c) (h1 : b.length ≤ 1000) (h2 : P ≤ 60) (hka : KAt w) :
    Calls Tryd.prog 19 #[.agg (rowB 32 f), .int .i64 n, .int .i64 i, .slice B b.length cb, .slice A P c] w fun e w' => e = .returned (.bool true) ∧ Below w.heap.size w w' := by
  have HBA := Lib.hid (show Below w.heap.size w (w.alloc (.cells (rowB 32 f) 28)) from below_allocS (Below.refl _ _) _)
  have HGA := Lib.hid (show (w.alloc (.cells (rowB 32 f) 28)).heap[w.heap.size]? = some (.cells (rowB 32 f) 28 (0, 0)) from heap_alloc_new _ _)
  obtain ⟨rb, hrb⟩ : ∃ rb, rb = checkS f n i b p := ⟨_, rfl⟩
  have HCA := Lib.hid (show ∀ w1 : World, Below w.heap.size w w1 → Calls Tryd.prog 48 #[.agg (rowB 32 f), .int .i64 n, .int .i64 i, .slice B b.length cb, .slice A P c] w1 fun e w' => e = .returned (.bool rb) ∧ Below w1.heap.size w1 w' from fun w1 hw => by
    rw [hrb]; exact check_any f n i B A cb P c b p w1 (hb.below hw) (by omega) (hp.below hw) hP hc)
  have HCB := Lib.hid (show ∀ w1 : World, Below w.heap.size w w1 → Calls Tryd.prog 49 #[.agg (rowB 32 f), .int .i64 n, .int .i64 i, .slice B b.length cb, .slice A P c] w1 fun e w' => e = .returned (.bool rb) ∧ Below w1.heap.size w1 w' from fun w1 hw => by
    rw [hrb]; exact refCheck_any f n i B A cb P c b p w1 (hb.below hw) (by omega) (hp.below hw) hP hc (by omega) (hka.below hw))
  have h1' : ¬ (1000 : Int) < (b.length : Int) := by omega
  have h2' : ¬ (60 : Int) < (P : Int) := by omega
  obtain ⟨L, hL⟩ : ∃ L, L = b.length := ⟨_, rfl⟩
  rw [← hL] at HCA HCB h1' ⊢
  clear hb hp hP hc hka hrb h1 h2 hL
  go_enter Tryd.func19, Tryd.ntmps19
  go_wp2_with (go_at_call 42; refine (alive15_any _).mono ?_; rintro e w1 ⟨rfl, hb1⟩; have HB1 := Lib.hid (below_keep HBA.out hb1); have HG1 := Lib.hid ((hb1.block _ (Array.getElem?_eq_some_iff.1 HGA.out).1).trans HGA.out); clear hb1)
  have hrg := range_num HG1.out
  have hu := Tryd.underlying28
  have hi : (Tryd.prog.info? 28).map (·.size) = some (rowB 32 f).toList.length := by rw [size32]; simp [rowB_size]
  refine wp_region_plan (S := fun w' => Below w1.heap.size w1 w') [0, 1, 2, 3, 4, 6, 7, 8, 9, 10, 5, 11, 12, 13] [true, true, true, true, true, true, true, true, true, true, false, false, true, true] (by kernel_rfl) (by kernel_rfl) (Below.refl _ _).drew (fun hHeld => ?_)
  simp only [List.filterMap_cons, List.filterMap_nil, List.getElem?_toArray, List.getElem?_cons_zero, List.getElem?_cons_succ]
  refine seqH_take (yieldsIf_load_mid (by rfl) _ _ rfl _ _ rfl _ _ (fun w hw => hrg w hw) hu rfl hi) ?_
  try simp only [Act.put, List.setIfInBounds_toArray, List.set_cons_zero, List.set_cons_succ, rowB_back]
  refine seqH_take (v := ?_) (Or.inl ⟨by rfl, ?_⟩) ?_
  rotate_left
  · (intro w hSw; go_simp; first | done | with_reducible rfl)
  try simp only [Act.put, List.setIfInBounds_toArray, List.set_cons_zero, List.set_cons_succ]
  refine seqH_take (v := ?_) (Or.inl ⟨by rfl, ?_⟩) ?_
  rotate_left
  · (intro w hSw; go_simp; first | done | with_reducible rfl)
  try simp only [Act.put, List.setIfInBounds_toArray, List.set_cons_zero, List.set_cons_succ]
  refine seqH_take (v := ?_) (Or.inl ⟨by rfl, ?_⟩) ?_
  rotate_left
  · (intro w hSw; go_simp; first | done | with_reducible rfl)
  try simp only [Act.put, List.setIfInBounds_toArray, List.set_cons_zero, List.set_cons_succ]
  refine seqH_take (v := ?_) (Or.inl ⟨by rfl, ?_⟩) ?_
  rotate_left
  · (intro w hSw; go_simp; first | done | with_reducible rfl)
  try simp only [Act.put, List.setIfInBounds_toArray, List.set_cons_zero, List.set_cons_succ]
  refine seqH_take (yieldsIf_load_mid (by rfl) _ _ rfl _ _ rfl _ _ (fun w hw => hrg w hw) hu rfl hi) ?_
  try simp only [Act.put, List.setIfInBounds_toArray, List.set_cons_zero, List.set_cons_succ, rowB_back]
  refine seqH_take (v := ?_) (Or.inl ⟨by rfl, ?_⟩) ?_
  rotate_left
  · (intro w hSw; go_simp; first | done | with_reducible rfl)
  try simp only [Act.put, List.setIfInBounds_toArray, List.set_cons_zero, List.set_cons_succ]
  refine seqH_take (v := ?_) (Or.inl ⟨by rfl, ?_⟩) ?_
  rotate_left
  · (intro w hSw; go_simp; first | done | with_reducible rfl)
  try simp only [Act.put, List.setIfInBounds_toArray, List.set_cons_zero, List.set_cons_succ]
  refine seqH_take (v := ?_) (Or.inl ⟨by rfl, ?_⟩) ?_
  rotate_left
  · (intro w hSw; go_simp; first | done | with_reducible rfl)
  try simp only [Act.put, List.setIfInBounds_toArray, List.set_cons_zero, List.set_cons_succ]
  refine seqH_take (v := ?_) (Or.inl ⟨by rfl, ?_⟩) ?_
  rotate_left
  · (intro w hSw; go_simp; first | done | with_reducible rfl)
  try simp only [Act.put, List.setIfInBounds_toArray, List.set_cons_zero, List.set_cons_succ]
  refine seqH_go (fun K hK => ?_)
  rw [if_pos (by rfl)]
  go_simp
  refine (HCA.out _ (below_keep HB1.out hHeld)).mono ?_; rintro e w2 ⟨rfl, hbc⟩
  try dsimp only
  refine hK.out _ _ (below_keep hHeld hbc) (fun hHeld2 => ?_)
  clear hK K hHeld
  have hHeld := hHeld2
  clear hHeld2
  try simp only [Act.put, List.setIfInBounds_toArray, List.set_cons_zero, List.set_cons_succ]
  refine seqH_go (fun K hK => ?_)
  rw [if_pos (by rfl)]
  go_simp
  refine (HCB.out _ (below_keep HB1.out hHeld)).mono ?_; rintro e w3 ⟨rfl, hbc⟩
  try dsimp only
  refine hK.out _ _ (below_keep hHeld hbc) (fun hHeld2 => ?_)
  clear hK K hHeld
  have hHeld := hHeld2
  clear hHeld2
  try simp only [Act.put, List.setIfInBounds_toArray, List.set_cons_zero, List.set_cons_succ]
  refine seqH_take (v := ?_) (Or.inl ⟨by rfl, ?_⟩) ?_
  rotate_left
  · (intro w hSw; go_simp; first | done | with_reducible rfl)
  try simp only [Act.put, List.setIfInBounds_toArray, List.set_cons_zero, List.set_cons_succ]
  refine seqH_take (v := ?_) (Or.inl ⟨by rfl, ?_⟩) ?_
  rotate_left
  · (intro w hSw; go_simp; first | done | with_reducible rfl)
  try simp only [Act.put, List.setIfInBounds_toArray, List.set_cons_zero, List.set_cons_succ]
  refine seqH_nil (NoPanic.normal ?_)
  go_wp2
  go_ret
  exact ⟨by simp, below_keep HB1.out hHeld⟩

theorem merkleChecks_walk {w : World} (f : Nat → BitVec 8) (n : Int) (_hn : -9223372036854775808 ≤ n ∧ n ≤ 9223372036854775807) (i : Int) (_hi : -9223372036854775808 ≤ i ∧ i ≤ 9223372036854775807) (v : Value) (b : List (BitVec 8)) (hv : BRow w v b) (_hq : b.length ≤ maxLen ∧ CapOk v) (vp : Value) (p : List (Nat → BitVec 8)) (hvp : NRow w vp p) (hc : p.length ≤ maxLen ∧ CapOk vp) (hk : KAt w) :
    Calls Tryd.prog 19 #[.agg (rowB 32 f), .int .i64 n, .int .i64 i, v, vp] w fun e w' => e = .returned (.bool true) ∧ Below w.heap.size w w' := by
  obtain ⟨B, cb, rfl⟩ := hv.shape
  obtain ⟨A, c, rfl⟩ := hvp.shape
  by_cases h : b.length ≤ 1000 ∧ p.length ≤ 60
  · exact merkleChecks_in f n i B A cb _ c b p w hv hvp rfl (hc.2 _ _ _ rfl).1 h.1 h.2 hk
  · exact merkleChecks_out f n i B A _ cb _ c w h

end Go.Proofs.YtnnllficjljjkaaDoor
