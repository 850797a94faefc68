/-
  The walk of the law ChachaTurns.
-/
import Derived.Test.YtdcndfcdjlpecaaLawCc
namespace Go.Proofs.Ytdcndfcdjlpecaa
open Go.RowKit
set_option linter.unusedVariables false
set_option linter.unusedSimpArgs false

theorem str_row {W : World} {a : Option Addr} {n c : Nat} {l : List (BitVec 8)} (h : BRow W (.slice a n c) l) : ∀ w', Below W.heap.size W w' → (convert 31 9 (.slice a n c)).run Try.prog w' = .ok (.string (strB l)) w' := fun w' hb =>
  run_string (h.below hb) Try.underlying31 Try.underlying5 Try.underlying9
theorem BRow.at {W : World} {v : Value} {l : List (BitVec 8)} (h : BRow W v l) {n : Nat} (hn : l.length = n) : ∃ a c, v = .slice a n c ∧ BRow W (.slice a n c) l := by
  obtain ⟨a, c, rfl, h1⟩ := h
  subst hn
  exact ⟨a, c, rfl, a, c, rfl, h1⟩

set_option maxRecDepth 100000 in
set_option maxHeartbeats 1000000 in
theorem chachaTurns_out {w : World} (key : Nat → BitVec 8) (n : Int) (nonce : Nat → BitVec 8) (a : Option Addr) (k c : Nat) (h : 1000 < k) :
    Calls Try.prog 4 #[.agg (rowB 32 key), .int .i64 n, .agg (rowB 12 nonce), .slice a k c] w fun e w' => e = .returned (.bool true) ∧ Below w.heap.size w w' := by
  have h1 : (1000 : Int) < (k : Int) := by omega
  clear h
  go_enter Try.func4, Try.ntmps4
  go_wp2_with (go_at_call 11; refine (alive9_any _).mono ?_; rintro e w1 ⟨rfl, hb1⟩)
  go_ret
  exact ⟨rfl, (key_at hb1).1⟩

set_option maxRecDepth 100000 in
set_option maxHeartbeats 1000000 in
theorem chachaTurns_in {w : World} (key : Nat → BitVec 8) (n : Int) (nonce : Nat → BitVec 8) (a : Option Addr) (c : Nat) (l : List (BitVec 8)) (hv : BRow w (.slice a l.length c) l) (hl : l.length ≤ 1000) :
    Calls Try.prog 4 #[.agg (rowB 32 key), .int .i64 n, .agg (rowB 12 nonce), .slice a l.length c] w fun e w' => e = .returned (.bool true) ∧ Below w.heap.size w w' := by
  have h1 : ¬ (1000 : Int) < (l.length : Int) := by omega
  have HL := Lib.hid hl
  have HV := Lib.hid hv
  have ht := fun v l w hv hl => turn_any key nonce n v l w hv hl
  have hr := fun v l w hv hl => refTurn_any key nonce n v l w hv hl
  have hlen := turnC_length key (BitVec.ofInt 32 n) nonce l
  have htw := turnC_twice key (BitVec.ofInt 32 n) nonce
  generalize BitVec.ofInt 32 n = c0 at *
  have HLEN := Lib.hid hlen
  have HT := Lib.hid ht
  have HR := Lib.hid hr
  have HTW := Lib.hid htw
  clear hl hv ht hr hlen htw
  go_enter Try.func4, Try.ntmps4
  have HZ32 := Lib.hid (show (Try.prog.info? 23).map (·.size) = some (rowB 32 key).size by rw [rowB_size]; kernel_rfl)
  have HZ12 := Lib.hid (show (Try.prog.info? 25).map (·.size) = some (rowB 12 nonce).size by rw [rowB_size]; kernel_rfl)
  go_wp2_with (first
    | (go_at_call 11; refine (alive9_any _).mono ?_; rintro e w1 ⟨rfl, hb1⟩; obtain ⟨hbb, hkk, hnn⟩ := key_at hb1; have HB0 := Lib.hid (show Below w.heap.size w ((w.alloc (.cells (rowB 32 key) 23)).alloc (.cells (rowB 12 nonce) 25)) from below_allocS (below_allocS (Below.refl _ _) _) _); have HBB := Lib.hid hbb; have HKK := Lib.hid hkk; have HNN := Lib.hid hnn; clear hb1 hbb hkk hnn)
    | ((with_reducible show wpList _ _ _ (⟨_, .load 23 _, _, _, _, _⟩ :: _) _ _); refine wpList_load_row rfl 23 _ rfl w.heap.size rfl 23 (rowB 32 key) (0, 0) _ HKK.out Try.underlying23 rfl HZ32.out ?_)
    | ((with_reducible show wpList _ _ _ (⟨_, .load 25 _, _, _, _, _⟩ :: _) _ _); refine wpList_load_row rfl 25 _ rfl (w.heap.size + 1) rfl 25 (rowB 12 nonce) (0, 0) _ HNN.out Try.underlying25 rfl HZ12.out ?_))
  refine (HT.out _ l _ (HV.out.below HBB.out) (by have := HL.out; omega)).mono ?_
  rintro e w2 ⟨⟨v2, rfl, hv2⟩, hb2⟩
  obtain ⟨a2, c2, e2, hv2⟩ := hv2.at HLEN.out
  subst e2
  have HV2 := Lib.hid hv2
  have HBB2 := Lib.hid (below_keep HBB.out hb2)
  have hrk := range_row ((hb2.block _ (Array.getElem?_eq_some_iff.1 HKK.out).1).trans HKK.out)
  have hrn := range_row ((hb2.block _ (Array.getElem?_eq_some_iff.1 HNN.out).1).trans HNN.out)
  have HRK := Lib.hid hrk
  have HRN := Lib.hid hrn
  clear hb2 hv2 hrk hrn
  go_wp2_with fail
  have hrk := HRK.out
  have hrn := HRN.out
  have hik := sizeK key
  have hin := sizeN nonce
  have huk := Try.underlying23
  have hun := Try.underlying25
  have hsb := str_row (HV.out.below HBB2.out)
  have hsc := str_row HV2.out
  obtain ⟨sb, hsb0⟩ : ∃ s, s = strB l := ⟨_, rfl⟩
  obtain ⟨sc, hsc0⟩ : ∃ s, s = strB (turnC key c0 nonce l) := ⟨_, rfl⟩
  rw [← hsb0] at hsb
  rw [← hsc0] at hsc
  have HSB := Lib.hid hsb0
  have HSC := Lib.hid hsc0
  clear hsb0 hsc0
  try simp only [Act.put, List.setIfInBounds_toArray, List.set_cons_zero, List.set_cons_succ]
  refine wp_region_plan (S := fun w' => Below w2.heap.size w2 w') [0, 1, 2, 3, 4, 5, 6, 7, 8, 9, 10, 11, 12, 13, 16, 17, 14, 15, 18, 19, 20] [true, true, true, true, true, true, false, false, true, true, true, true, true, true, true, true, false, false, true, true, true] (by kernel_rfl) (by kernel_rfl) (Below.refl _ _).drew (fun hHeld => ?_)
  simp only [List.filterMap_cons, List.filterMap_nil, List.getElem?_toArray, List.getElem?_cons_zero, List.getElem?_cons_succ]
  refine seqH_take (v := ?_) (Or.inl ⟨by rfl, ?_⟩) ?_
  rotate_left
  · (intro w hSw; go_simp; first | done | with_reducible rfl)
  try simp only [Act.put, List.setIfInBounds_toArray, List.set_cons_zero, List.set_cons_succ]
  refine seqH_take (v := ?_) (Or.inl ⟨by rfl, ?_⟩) ?_
  rotate_left
  · (intro w hSw; go_simp; first | done | with_reducible rfl)
  try simp only [Act.put, List.setIfInBounds_toArray, List.set_cons_zero, List.set_cons_succ]
  refine seqH_take (yieldsIf_load_mid (by rfl) _ _ rfl _ _ rfl _ _ (fun w hw => hrk w hw) huk rfl hik) ?_
  try simp only [Act.put, List.setIfInBounds_toArray, List.set_cons_zero, List.set_cons_succ, rowB_back]
  refine seqH_take (v := ?_) (Or.inl ⟨by rfl, ?_⟩) ?_
  rotate_left
  · (intro w hSw; go_simp; first | done | with_reducible rfl)
  try simp only [Act.put, List.setIfInBounds_toArray, List.set_cons_zero, List.set_cons_succ]
  refine seqH_take (yieldsIf_load_mid (by rfl) _ _ rfl _ _ rfl _ _ (fun w hw => hrn w hw) hun rfl hin) ?_
  try simp only [Act.put, List.setIfInBounds_toArray, List.set_cons_zero, List.set_cons_succ, rowB_back]
  refine seqH_take (v := ?_) (Or.inl ⟨by rfl, ?_⟩) ?_
  rotate_left
  · (intro w hSw; go_simp; first | done | with_reducible rfl)
  try simp only [Act.put, List.setIfInBounds_toArray, List.set_cons_zero, List.set_cons_succ]
  refine seqH_go (fun K hK => ?_)
  rw [if_pos (by rfl)]
  go_simp
  refine (HR.out _ l _ (HV.out.below (below_keep HBB2.out hHeld)) (by have := HL.out; omega)).mono ?_; rintro e w4 ⟨⟨v4, rfl, hv4⟩, hbc⟩; obtain ⟨a4, c4, e4, hv4⟩ := hv4.at HLEN.out; subst e4; have hs4 := str_row hv4 w4 (Below.refl _ _); rw [← HSC.out] at hs4
  try dsimp only
  refine hK.out _ _ (below_keep hHeld hbc) (fun hHeld2 => ?_)
  clear hK K hHeld
  have hHeld := hHeld2
  clear hHeld2
  try simp only [Act.put, List.setIfInBounds_toArray, List.set_cons_zero, List.set_cons_succ]
  refine seqH_go (fun K hK => ?_)
  rw [if_pos (by rfl)]
  go_simp
  skip
  try dsimp only
  refine hK.out _ _ hHeld (fun hHeld2 => ?_)
  clear hK K hHeld
  have hHeld := hHeld2
  clear hHeld2
  try simp only [Act.put, List.setIfInBounds_toArray, List.set_cons_zero, List.set_cons_succ]
  refine seqH_take (v := ?_) (Or.inl ⟨by rfl, ?_⟩) ?_
  rotate_left
  · (intro w hSw; go_simp; first | done | with_reducible rfl)
  try simp only [Act.put, List.setIfInBounds_toArray, List.set_cons_zero, List.set_cons_succ]
  refine seqH_take (v := ?_) (Or.inl ⟨by rfl, ?_⟩) ?_
  rotate_left
  · (intro w hSw; go_simp; first | done | with_reducible rfl)
  try simp only [Act.put, List.setIfInBounds_toArray, List.set_cons_zero, List.set_cons_succ]
  refine seqH_take (yieldsIf_load_mid (by rfl) _ _ rfl _ _ rfl _ _ (fun w hw => hrk w hw) huk rfl hik) ?_
  try simp only [Act.put, List.setIfInBounds_toArray, List.set_cons_zero, List.set_cons_succ, rowB_back]
  refine seqH_take (v := ?_) (Or.inl ⟨by rfl, ?_⟩) ?_
  rotate_left
  · (intro w hSw; go_simp; first | done | with_reducible rfl)
  try simp only [Act.put, List.setIfInBounds_toArray, List.set_cons_zero, List.set_cons_succ]
  refine seqH_take (yieldsIf_load_mid (by rfl) _ _ rfl _ _ rfl _ _ (fun w hw => hrn w hw) hun rfl hin) ?_
  try simp only [Act.put, List.setIfInBounds_toArray, List.set_cons_zero, List.set_cons_succ, rowB_back]
  refine seqH_take (v := ?_) (Or.inl ⟨by rfl, ?_⟩) ?_
  rotate_left
  · (intro w hSw; go_simp; first | done | with_reducible rfl)
  try simp only [Act.put, List.setIfInBounds_toArray, List.set_cons_zero, List.set_cons_succ]
  refine seqH_take (v := ?_) (Or.inl ⟨by rfl, ?_⟩) ?_
  rotate_left
  · (intro w hSw; go_simp; first | done | with_reducible rfl)
  try simp only [Act.put, List.setIfInBounds_toArray, List.set_cons_zero, List.set_cons_succ]
  refine seqH_take (v := ?_) (Or.inl ⟨by rfl, ?_⟩) ?_
  rotate_left
  · (intro w hSw; go_simp; first | done | with_reducible rfl)
  try simp only [Act.put, List.setIfInBounds_toArray, List.set_cons_zero, List.set_cons_succ]
  refine seqH_go (fun K hK => ?_)
  rw [if_pos (by rfl)]
  go_simp
  refine (HT.out _ _ _ (HV2.out.below hHeld) (by rw [HLEN.out]; have := HL.out; omega)).mono ?_; rintro e w5 ⟨⟨v5, rfl, hv5⟩, hbc⟩; rw [HTW.out] at hv5; obtain ⟨a5, c5, e5, hv5⟩ := hv5.at rfl; subst e5; have hs5 := str_row hv5 w5 (Below.refl _ _); rw [← HSB.out] at hs5
  try dsimp only
  refine hK.out _ _ (below_keep hHeld hbc) (fun hHeld2 => ?_)
  clear hK K hHeld
  have hHeld := hHeld2
  clear hHeld2
  try simp only [Act.put, List.setIfInBounds_toArray, List.set_cons_zero, List.set_cons_succ]
  refine seqH_go (fun K hK => ?_)
  rw [if_pos (by rfl)]
  go_simp
  skip
  try dsimp only
  refine hK.out _ _ hHeld (fun hHeld2 => ?_)
  clear hK K hHeld
  have hHeld := hHeld2
  clear hHeld2
  try simp only [Act.put, List.setIfInBounds_toArray, List.set_cons_zero, List.set_cons_succ]
  refine seqH_take (v := ?_) (Or.inl ⟨by rfl, ?_⟩) ?_
  rotate_left
  · (intro w hSw; go_simp; first | done | with_reducible rfl)
  try simp only [Act.put, List.setIfInBounds_toArray, List.set_cons_zero, List.set_cons_succ]
  refine seqH_take (v := ?_) (Or.inl ⟨by rfl, ?_⟩) ?_
  rotate_left
  · (intro w hSw; go_simp; first | done | with_reducible rfl)
  try simp only [Act.put, List.setIfInBounds_toArray, List.set_cons_zero, List.set_cons_succ]
  refine seqH_take (v := ?_) (Or.inl ⟨by rfl, ?_⟩) ?_
  rotate_left
  · (intro w hSw; go_simp; first | done | with_reducible rfl)
  try simp only [Act.put, List.setIfInBounds_toArray, List.set_cons_zero, List.set_cons_succ]
  refine seqH_nil (NoPanic.normal ?_)
  go_wp2
  go_ret
  exact ⟨rfl, below_keep HBB2.out hHeld⟩

theorem chachaTurns_walk {w : World} (key : Nat → BitVec 8) (n : Int) (hn : (Lit.int .i64 n).wf = true) (nonce : Nat → BitVec 8) (v : Value) (l : List (BitVec 8)) (hv : BRow w v l) (hq : l.length ≤ maxLen ∧ CapOk v) :
    Calls Try.prog 4 #[.agg (rowB 32 key), .int .i64 n, .agg (rowB 12 nonce), v] w fun e w' => e = .returned (.bool true) ∧ Below w.heap.size w w' := by
  obtain ⟨a, c, e, hv⟩ := hv.at rfl
  subst e
  by_cases h : 1000 < l.length
  · exact chachaTurns_out key n nonce a _ c h
  · exact chachaTurns_in key n nonce a c l hv (by omega)

end Go.Proofs.Ytdcndfcdjlpecaa
