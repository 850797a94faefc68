/-
  The walk of the law ChachaCounts.
-/
import Derived.Test.YtdcndfcdjlpecaaLawC
import Derived.ProofKit
namespace Go.Proofs.Ytdcndfcdjlpecaa
open Go.RowKit
set_option linter.unusedVariables false
set_option linter.unusedSimpArgs false

theorem i64_wf {y : Int} (h : (Lit.int .i64 y).wf = true) : -9223372036854775808 ≤ y ∧ y ≤ 9223372036854775807 := by
  unfold Lit.wf at h
  rw [Bool.and_eq_true, decide_eq_true_eq, decide_eq_true_eq, show IntKind.i64.min = -9223372036854775808 by decide, show IntKind.i64.max = 9223372036854775807 by decide] at h
  exact h
theorem key_at {w w1 : World} {key nonce : Nat → BitVec 8} (hb1 : Below ((w.alloc (.cells (rowB 32 key) 23)).alloc (.cells (rowB 12 nonce) 25)).heap.size ((w.alloc (.cells (rowB 32 key) 23)).alloc (.cells (rowB 12 nonce) 25)) w1) :
    Below w.heap.size w w1 ∧ w1.heap[w.heap.size]? = some (.cells (rowB 32 key) 23 (0, 0)) ∧ w1.heap[w.heap.size + 1]? = some (.cells (rowB 12 nonce) 25 (0, 0)) := by
  refine ⟨below_keep (below_allocS (below_allocS (Below.refl w.heap.size w) (.cells (rowB 32 key) 23)) (.cells (rowB 12 nonce) 25)) hb1, ?_, ?_⟩
  · exact (hb1.block _ (by simp; omega)).trans ((Below.heap_alloc _ _ _ (by simp)).trans (heap_alloc_new _ _))
  · refine (hb1.block _ (by simp)).trans ?_
    have := heap_alloc_new (w.alloc (.cells (rowB 32 key) 23)) (.cells (rowB 12 nonce) 25)
    simpa using this

set_option maxRecDepth 100000 in
set_option maxHeartbeats 1000000 in
theorem chachaCounts_out {w : World} (key : Nat → BitVec 8) (n m : Int) (nonce : Nat → BitVec 8) (h : m < 0 ∨ 1048576 < m ∨ n < 0 ∨ 1099511627776 < n) :
    Calls Try.prog 6 #[.agg (rowB 32 key), .int .i64 n, .int .i64 m, .agg (rowB 12 nonce)] w fun e w' => e = .returned (.bool true) ∧ Below w.heap.size w w' := by
  by_cases h1 : m < 0
  · clear h
    go_enter Try.func6, Try.ntmps6
    go_wp2_with (go_at_call 11; refine (alive9_any _).mono ?_; rintro e w1 ⟨rfl, hb1⟩)
    go_ret
    exact ⟨rfl, (key_at hb1).1⟩
  · by_cases h2 : 1048576 < m
    · clear h
      go_enter Try.func6, Try.ntmps6
      go_wp2_with (go_at_call 11; refine (alive9_any _).mono ?_; rintro e w1 ⟨rfl, hb1⟩)
      go_ret
      exact ⟨rfl, (key_at hb1).1⟩
    · by_cases h3 : n < 0
      · clear h
        go_enter Try.func6, Try.ntmps6
        go_wp2_with (go_at_call 11; refine (alive9_any _).mono ?_; rintro e w1 ⟨rfl, hb1⟩)
        go_ret
        exact ⟨rfl, (key_at hb1).1⟩
      · have h4 : 1099511627776 < n := by omega
        clear h
        go_enter Try.func6, Try.ntmps6
        go_wp2_with (go_at_call 11; refine (alive9_any _).mono ?_; rintro e w1 ⟨rfl, hb1⟩)
        go_ret
        exact ⟨rfl, (key_at hb1).1⟩

set_option maxRecDepth 100000 in
set_option maxHeartbeats 1000000 in
theorem chachaCounts_in {w : World} (key : Nat → BitVec 8) (n m : Int) (nonce : Nat → BitVec 8) (h1 : 0 ≤ m) (h2 : m ≤ 1048576) (h3 : 0 ≤ n) (h4 : n ≤ 1099511627776) :
    Calls Try.prog 6 #[.agg (rowB 32 key), .int .i64 n, .int .i64 m, .agg (rowB 12 nonce)] w fun e w' => e = .returned (.bool true) ∧ Below w.heap.size w w' := by
  have hb1 := block_any key nonce n
  have hb2 := block_any key nonce (n + m * 4294967296)
  have hb3 := block_any key nonce (n - 4294967296)
  rw [ofInt_mod (n + m * 4294967296) n (by omega)] at hb2
  rw [ofInt_mod (n - 4294967296) n (by omega)] at hb3
  generalize blockC key (BitVec.ofInt 32 n) nonce = B at *
  have HB1 := Lib.hid hb1
  have HB2 := Lib.hid hb2
  have HB3 := Lib.hid hb3
  clear hb1 hb2 hb3
  go_enter Try.func6, Try.ntmps6
  go_wp2_with (go_at_call 11; refine (alive9_any _).mono ?_; rintro e w1 ⟨rfl, hb1⟩)
  obtain ⟨hbb, hkk, hnn⟩ := key_at hb1
  have HBB := Lib.hid hbb
  have hrk := range_row hkk
  have hrn := range_row hnn
  clear hb1 hbb hkk hnn
  have hik := sizeK key
  have hin := sizeN nonce
  have huk := Try.underlying23
  have hun := Try.underlying25
  have e1 : IntKind.i64.wrap (m * 4294967296) = m * 4294967296 := IntWalk.i64_in _ (by omega)
  have e2 : IntKind.i64.wrap (n + m * 4294967296) = n + m * 4294967296 := IntWalk.i64_in _ (by omega)
  have e3 : IntKind.i64.wrap (n - 4294967296) = n - 4294967296 := IntWalk.i64_in _ (by omega)
  try simp only [Act.put, List.setIfInBounds_toArray, List.set_cons_zero, List.set_cons_succ]
  refine wp_region_plan (S := fun w' => Below w1.heap.size w1 w') [0, 1, 2, 4, 5, 6, 7, 8, 9, 3, 10, 11, 12, 13, 14, 15, 16, 18, 19, 20, 17, 21, 22, 23, 24] [true, true, true, true, true, true, true, true, true, false, false, true, true, true, true, true, true, true, true, true, false, false, true, true, true] (by kernel_rfl) (by kernel_rfl) (Below.refl _ _).drew (fun hHeld => ?_)
  simp only [List.filterMap_cons, List.filterMap_nil, List.getElem?_toArray, List.getElem?_cons_zero, List.getElem?_cons_succ]
  refine seqH_take (yieldsIf_load_mid (by rfl) _ _ rfl _ _ rfl _ _ (fun w hw => hrk w hw) huk rfl hik) ?_
  try simp only [Act.put, List.setIfInBounds_toArray, List.set_cons_zero, List.set_cons_succ, rowB_back]
  refine seqH_take (v := ?_) (Or.inl ⟨by rfl, ?_⟩) ?_
  rotate_left
  · (intro w hSw; go_simp; first | done | with_reducible rfl)
  try simp only [Act.put, List.setIfInBounds_toArray, List.set_cons_zero, List.set_cons_succ]
  refine seqH_take (yieldsIf_load_mid (by rfl) _ _ rfl _ _ rfl _ _ (fun w hw => hrn w hw) hun rfl hin) ?_
  try simp only [Act.put, List.setIfInBounds_toArray, List.set_cons_zero, List.set_cons_succ, rowB_back]
  refine seqH_take (yieldsIf_load_mid (by rfl) _ _ rfl _ _ rfl _ _ (fun w hw => hrk w hw) huk rfl hik) ?_
  try simp only [Act.put, List.setIfInBounds_toArray, List.set_cons_zero, List.set_cons_succ, rowB_back]
  refine seqH_take (v := ?_) (Or.inl ⟨by rfl, ?_⟩) ?_
  rotate_left
  · (intro w hSw; go_simp; first | done | with_reducible rfl)
  try simp only [Act.put, List.setIfInBounds_toArray, List.set_cons_zero, List.set_cons_succ]
  refine seqH_take (v := ?_) (Or.inl ⟨by rfl, ?_⟩) ?_
  rotate_left
  · (intro w hSw; go_simp; first | done | with_reducible rfl)
  try simp only [Act.put, List.setIfInBounds_toArray, List.set_cons_zero, List.set_cons_succ]
  refine seqH_take (v := ?_) (Or.inl ⟨by rfl, ?_⟩) ?_
  rotate_left
  · (intro w hSw; go_simp; first | done | with_reducible rfl)
  try simp only [Act.put, List.setIfInBounds_toArray, List.set_cons_zero, List.set_cons_succ]
  refine seqH_take (v := ?_) (Or.inl ⟨by rfl, ?_⟩) ?_
  rotate_left
  · (intro w hSw; go_simp; first | done | with_reducible rfl)
  try simp only [Act.put, List.setIfInBounds_toArray, List.set_cons_zero, List.set_cons_succ]
  refine seqH_take (yieldsIf_load_mid (by rfl) _ _ rfl _ _ rfl _ _ (fun w hw => hrn w hw) hun rfl hin) ?_
  try simp only [Act.put, List.setIfInBounds_toArray, List.set_cons_zero, List.set_cons_succ, rowB_back]
  refine seqH_go (fun K hK => ?_)
  rw [if_pos (by rfl)]
  go_simp
  refine (HB1.out _).mono ?_; rintro e w4 ⟨rfl, hbc⟩
  try dsimp only
  refine hK.out _ _ (below_keep hHeld hbc) (fun hHeld2 => ?_)
  clear hK K hHeld
  have hHeld := hHeld2
  clear hHeld2
  try simp only [Act.put, List.setIfInBounds_toArray, List.set_cons_zero, List.set_cons_succ]
  refine seqH_go (fun K hK => ?_)
  rw [if_pos (by rfl)]
  go_simp
  refine (HB2.out _).mono ?_; rintro e w5 ⟨rfl, hbc⟩
  try dsimp only
  refine hK.out _ _ (below_keep hHeld hbc) (fun hHeld2 => ?_)
  clear hK K hHeld
  have hHeld := hHeld2
  clear hHeld2
  try simp only [Act.put, List.setIfInBounds_toArray, List.set_cons_zero, List.set_cons_succ]
  refine seqH_take (yieldsIf_sameSig (by rfl) _ _ rfl B rfl rfl) ?_
  try simp only [Act.put, List.setIfInBounds_toArray, List.set_cons_zero, List.set_cons_succ]
  refine seqH_take (v := ?_) (Or.inl ⟨by rfl, ?_⟩) ?_
  rotate_left
  · (intro w hSw; go_simp; first | done | with_reducible rfl)
  try simp only [Act.put, List.setIfInBounds_toArray, List.set_cons_zero, List.set_cons_succ]
  refine seqH_take (yieldsIf_load_mid (by rfl) _ _ rfl _ _ rfl _ _ (fun w hw => hrk w hw) huk rfl hik) ?_
  try simp only [Act.put, List.setIfInBounds_toArray, List.set_cons_zero, List.set_cons_succ, rowB_back]
  refine seqH_take (v := ?_) (Or.inl ⟨by rfl, ?_⟩) ?_
  rotate_left
  · (intro w hSw; go_simp; first | done | with_reducible rfl)
  try simp only [Act.put, List.setIfInBounds_toArray, List.set_cons_zero, List.set_cons_succ]
  refine seqH_take (v := ?_) (Or.inl ⟨by rfl, ?_⟩) ?_
  rotate_left
  · (intro w hSw; go_simp; first | done | with_reducible rfl)
  try simp only [Act.put, List.setIfInBounds_toArray, List.set_cons_zero, List.set_cons_succ]
  refine seqH_take (yieldsIf_load_mid (by rfl) _ _ rfl _ _ rfl _ _ (fun w hw => hrn w hw) hun rfl hin) ?_
  try simp only [Act.put, List.setIfInBounds_toArray, List.set_cons_zero, List.set_cons_succ, rowB_back]
  refine seqH_take (yieldsIf_load_mid (by rfl) _ _ rfl _ _ rfl _ _ (fun w hw => hrk w hw) huk rfl hik) ?_
  try simp only [Act.put, List.setIfInBounds_toArray, List.set_cons_zero, List.set_cons_succ, rowB_back]
  refine seqH_take (v := ?_) (Or.inl ⟨by rfl, ?_⟩) ?_
  rotate_left
  · (intro w hSw; go_simp; first | done | with_reducible rfl)
  try simp only [Act.put, List.setIfInBounds_toArray, List.set_cons_zero, List.set_cons_succ]
  refine seqH_take (yieldsIf_load_mid (by rfl) _ _ rfl _ _ rfl _ _ (fun w hw => hrn w hw) hun rfl hin) ?_
  try simp only [Act.put, List.setIfInBounds_toArray, List.set_cons_zero, List.set_cons_succ, rowB_back]
  refine seqH_go (fun K hK => ?_)
  rw [if_pos (by rfl)]
  go_simp
  refine (HB3.out _).mono ?_; rintro e w6 ⟨rfl, hbc⟩
  try dsimp only
  refine hK.out _ _ (below_keep hHeld hbc) (fun hHeld2 => ?_)
  clear hK K hHeld
  have hHeld := hHeld2
  clear hHeld2
  try simp only [Act.put, List.setIfInBounds_toArray, List.set_cons_zero, List.set_cons_succ]
  refine seqH_go (fun K hK => ?_)
  rw [if_pos (by rfl)]
  go_simp
  refine (HB1.out _).mono ?_; rintro e w7 ⟨rfl, hbc⟩
  try dsimp only
  refine hK.out _ _ (below_keep hHeld hbc) (fun hHeld2 => ?_)
  clear hK K hHeld
  have hHeld := hHeld2
  clear hHeld2
  try simp only [Act.put, List.setIfInBounds_toArray, List.set_cons_zero, List.set_cons_succ]
  refine seqH_take (yieldsIf_sameSig (by rfl) _ _ rfl B rfl rfl) ?_
  try simp only [Act.put, List.setIfInBounds_toArray, List.set_cons_zero, List.set_cons_succ]
  refine seqH_take (v := ?_) (Or.inl ⟨by rfl, ?_⟩) ?_
  rotate_left
  · (intro w hSw; go_simp; first | done | with_reducible rfl)
  try simp only [Act.put, List.setIfInBounds_toArray, List.set_cons_zero, List.set_cons_succ]
  refine seqH_take (v := ?_) (Or.inl ⟨by rfl, ?_⟩) ?_
  rotate_left
  · (intro w hSw; go_simp; first | done | with_reducible rfl)
  try simp only [Act.put, List.setIfInBounds_toArray, List.set_cons_zero, List.set_cons_succ]
  refine seqH_nil (NoPanic.normal ?_)
  go_wp2
  go_ret
  exact ⟨rfl, below_keep HBB.out hHeld⟩

theorem chachaCounts_walk {w : World} (key : Nat → BitVec 8) (n : Int) (hn : (Lit.int .i64 n).wf = true) (m : Int) (hm : (Lit.int .i64 m).wf = true) (nonce : Nat → BitVec 8) :
    Calls Try.prog 6 #[.agg (rowB 32 key), .int .i64 n, .int .i64 m, .agg (rowB 12 nonce)] w fun e w' => e = .returned (.bool true) ∧ Below w.heap.size w w' := by
  by_cases h : m < 0 ∨ 1048576 < m ∨ n < 0 ∨ 1099511627776 < n
  · exact chachaCounts_out key n m nonce h
  · exact chachaCounts_in key n m nonce (by omega) (by omega) (by omega) (by omega)

end Go.Proofs.Ytdcndfcdjlpecaa
