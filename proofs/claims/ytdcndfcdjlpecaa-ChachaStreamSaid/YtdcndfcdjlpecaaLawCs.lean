/-
  The walk of the law ChachaStream.
-/
import Derived.Test.YtdcndfcdjlpecaaLawCt
namespace Go.Proofs.Ytdcndfcdjlpecaa
open Go.RowKit
set_option linter.unusedVariables false
set_option linter.unusedSimpArgs false

theorem brow_cell {W : World} {b : Option Addr} {n cp : Nat} {m : List (BitVec 8)} (h : BRow W (.slice b n cp) m) (i : Nat) (x : BitVec 8) (hi : i < n) (hx : m[i]? = some x) : ∃ g o, b = some ⟨g, o, none⟩ ∧ g < W.heap.size ∧ W.cell? ⟨g, o + i, none⟩ = some (.int .u8 (B8 x)) := by
  obtain ⟨a, c', e, _, hp⟩ := h
  simp only [Value.slice.injEq] at e
  obtain ⟨rfl, _, _⟩ := e
  obtain ⟨hm, rfl⟩ := List.getElem?_eq_some_iff.1 hx
  obtain ⟨g, o, rfl, h1, h2⟩ := hp (by omega)
  exact ⟨g, o, rfl, h1, h2 i hm⟩

set_option maxRecDepth 100000 in
set_option maxHeartbeats 1000000 in
theorem chachaStream_long {w : World} (key : Nat → BitVec 8) (n : Int) (nonce : Nat → BitVec 8) (a : Option Addr) (k c : Nat) (h : 500 < k) :
    Calls Try.prog 5 #[.agg (rowB 32 key), .int .i64 n, .agg (rowB 12 nonce), .slice a k c] w fun e w' => e = .returned (.bool true) ∧ Below w.heap.size w w' := by
  have h1 : (500 : Int) < (k : Int) := by omega
  clear h
  go_enter Try.func5, Try.ntmps5
  go_wp2_with (go_at_call 11; refine (alive9_any _).mono ?_; rintro e w1 ⟨rfl, hb1⟩)
  go_ret
  exact ⟨rfl, (key_at hb1).1⟩

set_option maxRecDepth 100000 in
set_option maxHeartbeats 1000000 in
theorem chachaStream_high {w : World} (key : Nat → BitVec 8) (n : Int) (nonce : Nat → BitVec 8) (a : Option Addr) (k c : Nat) (h : k ≤ 500) (h2 : 4611686018427387904 < n) :
    Calls Try.prog 5 #[.agg (rowB 32 key), .int .i64 n, .agg (rowB 12 nonce), .slice a k c] w fun e w' => e = .returned (.bool true) ∧ Below w.heap.size w w' := by
  have h1 : ¬ (500 : Int) < (k : Int) := by omega
  clear h
  go_enter Try.func5, Try.ntmps5
  go_wp2_with (go_at_call 11; refine (alive9_any _).mono ?_; rintro e w1 ⟨rfl, hb1⟩)
  go_ret
  exact ⟨rfl, (key_at hb1).1⟩

set_option maxRecDepth 100000 in
set_option maxHeartbeats 2000000 in
theorem chachaStream_in {w : World} (key : Nat → BitVec 8) (n : Int) (nonce : Nat → BitVec 8) (a : Option Addr) (c : Nat) (l : List (BitVec 8)) (hv : BRow w (.slice a l.length c) l) (hl : l.length ≤ 500) (hn0 : -9223372036854775808 ≤ n) (hn1 : n ≤ 4611686018427387904) :
    Calls Try.prog 5 #[.agg (rowB 32 key), .int .i64 n, .agg (rowB 12 nonce), .slice a l.length c] w fun e w' => e = .returned (.bool true) ∧ Below w.heap.size w w' := by
  have h1 : ¬ (500 : Int) < (l.length : Int) := by omega
  have h2 : ¬ (4611686018427387904 : Int) < n := by omega
  have HL := Lib.hid hl
  have HV := Lib.hid hv
  have HN0 := Lib.hid hn0
  have HN1 := Lib.hid hn1
  have ht := fun v l w hv hl => turn_any key nonce n v l w hv hl
  have hlen := turnC_length key (BitVec.ofInt 32 n) nonce
  have hbk := fun k : Nat => block_any key nonce (n + ((k / 64 : Nat) : Int))
  simp only [ofInt_add] at hbk
  generalize BitVec.ofInt 32 n = c0 at *
  have HLEN := Lib.hid hlen
  have HT := Lib.hid ht
  have HBK := Lib.hid hbk
  have HMK := Lib.hid (make_B l.length (by omega))
  clear hl hv ht hlen hbk hn0 hn1
  have HZ32 := Lib.hid (show (Try.prog.info? 23).map (·.size) = some (rowB 32 key).size by rw [rowB_size]; kernel_rfl)
  have HZ12 := Lib.hid (show (Try.prog.info? 25).map (·.size) = some (rowB 12 nonce).size by rw [rowB_size]; kernel_rfl)
  go_enter Try.func5, Try.ntmps5
  go_wp2_with (go_at_call 11; refine (alive9_any _).mono ?_; rintro e w1 ⟨rfl, hb1⟩; obtain ⟨hbb, hkk, hnn⟩ := key_at hb1; have HB0 := Lib.hid (show Below w.heap.size w ((w.alloc (.cells (rowB 32 key) 23)).alloc (.cells (rowB 12 nonce) 25)) from below_allocS (below_allocS (Below.refl _ _) _) _); have HBB := Lib.hid hbb; have HKK := Lib.hid hkk; have HNN := Lib.hid hnn; clear hb1 hbb hkk hnn)
  have hrk := range_row HKK.out
  have hrn := range_row HNN.out
  have hik := sizeK key
  have hin := sizeN nonce
  have huk := Try.underlying23
  have hun := Try.underlying25
  have hmk := HMK.out
  try simp only [Act.put, List.setIfInBounds_toArray, List.set_cons_zero, List.set_cons_succ]
  refine wp_region_plan (S := fun w' => Below w1.heap.size w1 w') [0, 1, 2, 3, 4, 5, 6, 7] [true, true, true, true, true, false, false, true] (by kernel_rfl) (by kernel_rfl) (Below.refl _ _).drew (fun hHeld => ?_)
  simp only [List.filterMap_cons, List.filterMap_nil, List.getElem?_toArray, List.getElem?_cons_zero, List.getElem?_cons_succ]
  refine seqH_take (yieldsIf_load_mid (by rfl) _ _ rfl _ _ rfl _ _ (fun w hw => hrk w hw) huk rfl hik) ?_
  try simp only [Act.put, List.setIfInBounds_toArray, List.set_cons_zero, List.set_cons_succ, rowB_back]
  refine seqH_take (v := ?_) (Or.inl ⟨by rfl, ?_⟩) ?_
  rotate_left
  · (intro w hSw; go_simp; first | done | with_reducible rfl)
  try simp only [Act.put, List.setIfInBounds_toArray, List.set_cons_zero, List.set_cons_succ]
  refine seqH_take (yieldsIf_load_mid (by rfl) _ _ rfl _ _ rfl _ _ (fun w hw => hrn w hw) hun rfl hin) ?_
  try simp only [Act.put, List.setIfInBounds_toArray, List.set_cons_zero, List.set_cons_succ, rowB_back]
  refine seqH_take (v := ?_) (Or.inl ⟨by rfl, ?_⟩) ?_
  rotate_left
  · (intro w hSw; go_simp; first | done | with_reducible rfl)
  try simp only [Act.put, List.setIfInBounds_toArray, List.set_cons_zero, List.set_cons_succ]
  refine seqH_take (v := ?_) (Or.inl ⟨by rfl, ?_⟩) ?_
  rotate_left
  · (intro w hSw; go_simp; first | done | with_reducible rfl)
  try simp only [Act.put, List.setIfInBounds_toArray, List.set_cons_zero, List.set_cons_succ]
  refine seqH_go (fun K hK => ?_)
  rw [if_pos (by rfl)]
  go_simp
  refine hK.out _ _ (below_allocS hHeld _) (fun hHeld2 => ?_)
  clear hK K hHeld
  have hHeld := hHeld2
  clear hHeld2
  try simp only [Act.put, List.setIfInBounds_toArray, List.set_cons_zero, List.set_cons_succ]
  refine seqH_go (fun K hK => ?_)
  rw [if_pos (by rfl)]
  go_simp
  refine (HT.out _ ((List.range l.length).map fun _ => 0) _ ((brow_row (heap_alloc_new w1 (.cells (rowB l.length fun _ => 0) 5))).below (Below.refl _ _).drew) (by simp; have := HL.out; omega)).mono ?_; rintro e w2 ⟨⟨v2, rfl, hv2⟩, hbc⟩; obtain ⟨az, cz, ez, hz⟩ := hv2.at (n := l.length) (by rw [HLEN.out]; simp); subst ez
  try dsimp only
  refine hK.out _ _ (below_keep hHeld hbc) (fun hHeld2 => ?_)
  clear hK K hHeld
  have hHeld := hHeld2
  clear hHeld2
  try simp only [Act.put, List.setIfInBounds_toArray, List.set_cons_zero, List.set_cons_succ]
  refine seqH_take (v := ?_) (Or.inl ⟨by rfl, ?_⟩) ?_
  rotate_left
  · (intro w hSw; go_simp; first | done | with_reducible rfl)
  try simp only [Act.put, List.setIfInBounds_toArray, List.set_cons_zero, List.set_cons_succ]
  refine seqH_nil (NoPanic.normal ?_)
  have HZ := Lib.hid hz
  have HB2 := Lib.hid (below_keep HBB.out hHeld)
  have HKK2 := Lib.hid ((hHeld.block _ (Array.getElem?_eq_some_iff.1 HKK.out).1).trans HKK.out)
  have HNN2 := Lib.hid ((hHeld.block _ (Array.getElem?_eq_some_iff.1 HNN.out).1).trans HNN.out)
  clear hz hHeld hbc hv2 hrk hrn hmk
  go_wp2_with (first
    | ((with_reducible show wpList _ _ _ (⟨_, .load 23 _, _, _, _, _⟩ :: _) _ _); refine wpList_load_row rfl 23 _ rfl w.heap.size rfl 23 (rowB 32 key) (0, 0) _ HKK2.out Try.underlying23 rfl HZ32.out ?_)
    | ((with_reducible show wpList _ _ _ (⟨_, .load 25 _, _, _, _, _⟩ :: _) _ _); refine wpList_load_row rfl 25 _ rfl (w.heap.size + 1) rfl 25 (rowB 12 nonce) (0, 0) _ HNN2.out Try.underlying25 rfl HZ12.out ?_))
  refine (HT.out _ l _ (HV.out.below HB2.out) (by have := HL.out; omega)).mono ?_
  rintro e w3 ⟨⟨v3, rfl, hv3⟩, hb3⟩
  obtain ⟨ac, cc, ec, hc⟩ := hv3.at (n := l.length) (HLEN.out l)
  subst ec
  have HC := Lib.hid hc
  have HB3 := Lib.hid (below_keep HB2.out hb3)
  have HZ3 := Lib.hid (HZ.out.below hb3)
  have HKK3 := Lib.hid ((hb3.block _ (Array.getElem?_eq_some_iff.1 HKK2.out).1).trans HKK2.out)
  have HNN3 := Lib.hid ((hb3.block _ (Array.getElem?_eq_some_iff.1 HNN2.out).1).trans HNN2.out)
  clear hb3 hv3 hc
  go_wp2_with fail
  have HVZ := Lib.hid (HV.out.below HB3.out)
  have HCZ := Lib.hid (show ∀ (i : Nat) (h : i < l.length), (turnC key c0 nonce ((List.range l.length).map fun _ => 0))[i]? = some (strm key c0 nonce i) from fun i h => by
    simp [turnC, h])
  have HCC := Lib.hid (show ∀ (i : Nat) (h : i < l.length), (turnC key c0 nonce l)[i]? = some (l[i] ^^^ strm key c0 nonce i) from fun i h => by
    simp [turnC, h])
  have HSTR := Lib.hid (show ∀ i, blockC key (c0 + BitVec.ofNat 32 (i / 64)) nonce (i % 64) = strm key c0 nonce i from fun i => rfl)
  go_loopw [12] (fun i wr => ∃ k : Nat, k ≤ l.length ∧ i = .int .i64 k ∧ Below w3.heap.size w3 wr) (fun i _ => l.length - (intOf i).toNat)
  case atStart => exact ⟨0, Nat.zero_le _, rfl, Below.refl _ _⟩
  case round =>
    obtain ⟨k, hk, rfl, hb⟩ := hrel
    have HB := Lib.hid hb
    clear hb
    by_cases hlt : k < l.length
    · have hk0 : (0 : Int) ≤ (k : Int) := by omega
      have hk1 : (k : Int) < (l.length : Int) := by omega
      have hk2 : (k : Int) < 500 := by have := HL.out; omega
      have hn0 := HN0.out
      have hn1 := HN1.out
      have hbk := HBK.out k
      rw [show n + ((k / 64 : Nat) : Int) = n + (k : Int) / 64 by omega] at hbk
      obtain ⟨f, hf⟩ : ∃ f, f = blockC key (c0 + BitVec.ofNat 32 (k / 64)) nonce := ⟨_, rfl⟩
      rw [← hf] at hbk
      have HF := Lib.hid hf
      have HBKK := Lib.hid hbk
      clear hbk hf
      have HZ64 := Lib.hid (show (Try.prog.info? 28).map (·.size) = some (rowB 64 f).size by rw [rowB_size, size64])
      have HKR := Lib.hid ((HB.out.block _ (Array.getElem?_eq_some_iff.1 HKK3.out).1).trans HKK3.out)
      have HNR := Lib.hid ((HB.out.block _ (Array.getElem?_eq_some_iff.1 HNN3.out).1).trans HNN3.out)
      go_wp2_with (first
        | ((with_reducible show wpList _ _ _ (⟨_, .load 23 _, _, _, _, _⟩ :: _) _ _); refine wpList_load_row rfl 23 _ rfl w.heap.size rfl 23 (rowB 32 key) (0, 0) _ HKR.out Try.underlying23 rfl HZ32.out ?_)
        | ((with_reducible show wpList _ _ _ (⟨_, .load 25 _, _, _, _, _⟩ :: _) _ _); refine wpList_load_row rfl 25 _ rfl (w.heap.size + 1) rfl 25 (rowB 12 nonce) (0, 0) _ HNR.out Try.underlying25 rfl HZ12.out ?_))
      refine (HBKK.out _).mono ?_
      rintro e w4 ⟨rfl, hb4⟩
      have HB4 := Lib.hid (below_keep HB.out hb4)
      clear hb4
      go_wp2_with (first
        | (with_reducible refine wpList_alloc_row rfl 28 rfl 64 _ info64 ?_)
        | ((with_reducible show wpList _ _ _ (⟨_, .store 28 _ _, _, _, _, _⟩ :: _) _ _); refine wpList_store_rowTo rfl 28 _ _ rfl rfl _ (rowB 64 f) rfl rfl 28 _ (heap_alloc_new _ _) HZ64.out (by rw [row_size, rowB_size]) (rowB_oneCell _ _) ?_))
      obtain ⟨gk, egk⟩ : ∃ gk, gk = w4.heap.size := ⟨_, rfl⟩
      have HB5 := Lib.hid (show Below w3.heap.size w3 ((w4.alloc (.cells (row 64 fun _ => .int .u8 0) 28)).setRow w4.heap.size (rowB 64 f)) from below_setRow (below_allocS HB4.out _) HB4.out.size _)
      have HK5 := Lib.hid (show ((w4.alloc (.cells (row 64 fun _ => .int .u8 0) 28)).setRow w4.heap.size (rowB 64 f)).heap[gk]? = some (.cells (rowB 64 f) 28 (0, 0)) from by rw [egk]; exact heap_setRow_at (heap_alloc_new _ _))
      generalize (w4.alloc (.cells (row 64 fun _ => .int .u8 0) 28)).setRow w4.heap.size (rowB 64 f) = w5 at *
      rw [← egk]
      clear egk
      obtain ⟨gz, oz, ez, _, dz⟩ := brow_cell (HZ3.out.below HB5.out) k _ hlt (HCZ.out k hlt)
      obtain ⟨gc, oc, ec, _, dc⟩ := brow_cell (HC.out.below HB5.out) k _ hlt (HCC.out k hlt)
      obtain ⟨gb, ob, eb, _, db⟩ := brow_cell (HVZ.out.below HB5.out) k l[k] hlt (List.getElem?_eq_getElem hlt)
      subst ez ec eb
      have dk : w5.cell? ⟨gk, k % 64, none⟩ = some (.int .u8 (B8 (f (k % 64)))) := cell_rowB HK5.out (by omega)
      rw [HF.out, HSTR.out] at dk
      generalize strm key c0 nonce k = x at *
      generalize l[k] = y at *
      have hx := B8_xor y x
      have t3 : ((k : Int)).tmod 64 = (k : Int) % 64 := by rw [Int.tmod_eq_emod_of_nonneg hk0]
      have t4 : (0 : Int) ≤ (k : Int) % 64 := by omega
      have t5 : (k : Int) % 64 < 64 := by omega
      have t6 : ((k : Int) % 64).toNat = k % 64 := by omega
      clear hn0 hn1
      go_quiet (fail)
      clear t3 t4 t5 t6
      go_wp2_with fail
      go_roundw
      case rel => exact ⟨k + 1, by omega, by go_num, below_draws HB5.out _⟩
      case measure => simp [intOf]; omega
    · go_wp2_with fail
      go_ret
      exact ⟨rfl, HB3.out.trans (HB.out.mono HB3.out.size)⟩

theorem chachaStream_walk {w : World} (key : Nat → BitVec 8) (n : Int) (hn : (Lit.int .i64 n).wf = true) (nonce : Nat → BitVec 8) (v : Value) (l : List (BitVec 8)) (hv : BRow w v l) (hq : l.length ≤ maxLen ∧ CapOk v) :
    Calls Try.prog 5 #[.agg (rowB 32 key), .int .i64 n, .agg (rowB 12 nonce), v] w fun e w' => e = .returned (.bool true) ∧ Below w.heap.size w w' := by
  obtain ⟨a, c, e, hv⟩ := hv.at rfl
  subst e
  by_cases h : 500 < l.length
  · exact chachaStream_long key n nonce a _ c h
  · by_cases h2 : 4611686018427387904 < n
    · exact chachaStream_high key n nonce a _ c (by omega) h2
    · exact chachaStream_in key n nonce a c l hv (by omega) (i64_wf hn).1 (by omega)

end Go.Proofs.Ytdcndfcdjlpecaa
