/-
  A set of blocks as words of bits: its parts, and the walks of New, Has, put, Put, Drop.
-/
import Derived.Test.YtdcndfcdjlpecaaPop
import Derived.Test.YtdcndfcdjlpecaaBytes
import Derived.Test.YtdcndfcdjlpecaaMake
import Derived.Test.YtdcndfcdjlpecaaPlan
import Derived.Deep.QuietTactic
import Derived.BigQuiet
import Derived.StillTailTactics
namespace Go.Proofs.Ytdcndfcdjlpecaa
open Go.RowKit
set_option linter.unusedVariables false
set_option linter.unusedSimpArgs false

/-- A row of words of 64 bits. -/
def rowQ (n : Nat) (f : Nat → BitVec 64) : Array Value := row n fun i => .int .u64 (Q (f i))
theorem rowQ_size (n : Nat) (f : Nat → BitVec 64) : (rowQ n f).size = n := row_size _ _
theorem cell_rowQ {w : World} {g n i : Nat} {f : Nat → BitVec 64} {t : TypeId} {fr : Nat × Nat} (hg : w.heap[g]? = some (.cells (rowQ n f) t fr)) (h : i < n) : w.cell? ⟨g, i, none⟩ = some (.int .u64 (Q (f i))) := cell_row hg h
theorem heap_set_rowQ {w : World} {g n i : Nat} {f : Nat → BitVec 64} {t : TypeId} (x : BitVec 64) (hg : w.heap[g]? = some (.cells (rowQ n f) t (0, 0))) (h : i < n) :
    (w.setCell ⟨g, i, none⟩ (.int .u64 (Q x))).heap[g]? = some (.cells (rowQ n (upd f i x)) t (0, 0)) := by
  unfold rowQ at hg ⊢
  rw [heap_set_row _ hg h]
  congr 2
  exact row_congr fun j _ => by unfold upd; split <;> rfl
theorem made_rowQ (n : Nat) : madeCells #[Value.int .u64 0] n = rowQ n fun _ => 0 := by
  apply Array.ext'
  rw [toList_madeCells_one]
  simp only [rowQ, row, List.toList_toArray]
  rw [List.map_const', List.length_range]
  rfl
theorem info_u64 : (Try.prog.info? 60).map (fun i => (i.zero, i.size, i.bytes)) = some (some (.int .u64 0), 1, 8) := by kernel_rfl
theorem make_Q (n : Nat) (h : n ≤ 1000000) (w : World) : (Instr.makeSlice 57 (.int .i64 (n : Int)) (.int .i64 (n : Int))).run Try.prog w = .ok (.slice (some ⟨w.heap.size, 0, none⟩) n n) (w.alloc (.cells (rowQ n fun _ => 0) 60)) := by
  rw [← made_rowQ]
  exact run_make_row' 57 60 _ 8 Try.underlying57 info_u64 rfl .i64 .i64 n (by omega) (by omega) w

/-- How many words a set of n blocks has. -/
def wds (n : Nat) : Nat := (n + 63) / 64
structure SetAt (w : World) (g gw n : Nat) (x : Nat → BitVec 64) : Prop where
  hs : w.heap[g]? = some (.cells #[.int .i64 (n : Int), .slice (some ⟨gw, 0, none⟩) (wds n) (wds n)] 59 (0, 0))
  hw : w.heap[gw]? = some (.cells (rowQ (wds n) x) 60 (0, 0))
  ne : g ≠ gw

set_option maxRecDepth 100000 in
set_option maxHeartbeats 1000000 in
theorem new_zero (v : Int) (hv : v ≤ 0) (w : World) :
    Calls Try.prog 17 #[.int .i64 v] w fun e w' => ∃ g gw, e = .returned (.pointer (some ⟨g, 0, none⟩)) ∧ SetAt w' g gw 0 (fun _ => 0) ∧ w.heap.size ≤ g ∧ w.heap.size ≤ gw ∧ Below w.heap.size w w' := by
  have hmk : ∀ w, (Instr.makeSlice 57 (.int .i64 0) (.int .i64 0)).run Try.prog w = .ok (.slice (some ⟨w.heap.size, 0, none⟩) (wds 0) (wds 0)) (w.alloc (.cells (rowQ (wds 0) fun _ => 0) 60)) := fun w => make_Q 0 (by decide) w
  have HG := Lib.hid (show SetAt ((w.alloc (.cells (rowQ (wds 0) fun _ => 0) 60)).alloc (.cells #[.int .i64 ((0 : Nat) : Int), .slice (some ⟨w.heap.size, 0, none⟩) (wds 0) (wds 0)] 59)) (w.heap.size + 1) w.heap.size 0 (fun _ => 0) from ⟨heap_alloc2_new _ _ _, heap_alloc2_old _ _ _, by omega⟩)
  have HB := Lib.hid (show Below w.heap.size w ((w.alloc (.cells (rowQ (wds 0) fun _ => 0) 60)).alloc (.cells #[.int .i64 ((0 : Nat) : Int), .slice (some ⟨w.heap.size, 0, none⟩) (wds 0) (wds 0)] 59)) from (((Below.refl _ _).alloc (Nat.le_refl _) _).alloc (by simp) _))
  go_enter Try.func17, Try.ntmps17
  go_wp2_with fail
  go_ret
  exact ⟨_, rfl, _, HG.out, by omega, by omega, HB.out⟩

set_option maxRecDepth 100000 in
set_option maxHeartbeats 1000000 in
theorem new_big (v : Int) (hv : 4096 < v) (w : World) :
    Calls Try.prog 17 #[.int .i64 v] w fun e w' => ∃ g gw, e = .returned (.pointer (some ⟨g, 0, none⟩)) ∧ SetAt w' g gw 4096 (fun _ => 0) ∧ w.heap.size ≤ g ∧ w.heap.size ≤ gw ∧ Below w.heap.size w w' := by
  have hv0 : 0 < v := by omega
  have hmk : ∀ w, (Instr.makeSlice 57 (.int .i64 64) (.int .i64 64)).run Try.prog w = .ok (.slice (some ⟨w.heap.size, 0, none⟩) (wds 4096) (wds 4096)) (w.alloc (.cells (rowQ (wds 4096) fun _ => 0) 60)) := fun w => make_Q 64 (by decide) w
  have HG := Lib.hid (show SetAt ((w.alloc (.cells (rowQ (wds 4096) fun _ => 0) 60)).alloc (.cells #[.int .i64 ((4096 : Nat) : Int), .slice (some ⟨w.heap.size, 0, none⟩) (wds 4096) (wds 4096)] 59)) (w.heap.size + 1) w.heap.size 4096 (fun _ => 0) from ⟨heap_alloc2_new _ _ _, heap_alloc2_old _ _ _, by omega⟩)
  have HB := Lib.hid (show Below w.heap.size w ((w.alloc (.cells (rowQ (wds 4096) fun _ => 0) 60)).alloc (.cells #[.int .i64 ((4096 : Nat) : Int), .slice (some ⟨w.heap.size, 0, none⟩) (wds 4096) (wds 4096)] 59)) from (((Below.refl _ _).alloc (Nat.le_refl _) _).alloc (by simp) _))
  go_enter Try.func17, Try.ntmps17
  go_wp2_with fail
  go_ret
  exact ⟨_, rfl, _, HG.out, by omega, by omega, HB.out⟩

set_option maxRecDepth 100000 in
set_option maxHeartbeats 1000000 in
theorem new_some (n : Nat) (h0 : 0 < n) (hn : n ≤ 4096) (w : World) :
    Calls Try.prog 17 #[.int .i64 (n : Int)] w fun e w' => ∃ g gw, e = .returned (.pointer (some ⟨g, 0, none⟩)) ∧ SetAt w' g gw n (fun _ => 0) ∧ w.heap.size ≤ g ∧ w.heap.size ≤ gw ∧ Below w.heap.size w w' := by
  have hv0 : (0 : Int) < (n : Int) := by omega
  have hv1 : (n : Int) ≤ 4096 := by omega
  have hmk : ∀ w, (Instr.makeSlice 57 (.int .i64 (((n : Int) + 64 - 1) / 64)) (.int .i64 (((n : Int) + 64 - 1) / 64))).run Try.prog w = .ok (.slice (some ⟨w.heap.size, 0, none⟩) (wds n) (wds n)) (w.alloc (.cells (rowQ (wds n) fun _ => 0) 60)) := fun w => by
    rw [show (((n : Int) + 64 - 1) / 64) = ((wds n : Nat) : Int) from by unfold wds; omega]
    exact make_Q _ (by unfold wds; omega) w
  have HG := Lib.hid (show SetAt ((w.alloc (.cells (rowQ (wds n) fun _ => 0) 60)).alloc (.cells #[.int .i64 ((n : Nat) : Int), .slice (some ⟨w.heap.size, 0, none⟩) (wds n) (wds n)] 59)) (w.heap.size + 1) w.heap.size n (fun _ => 0) from ⟨heap_alloc2_new _ _ _, heap_alloc2_old _ _ _, by omega⟩)
  have HB := Lib.hid (show Below w.heap.size w ((w.alloc (.cells (rowQ (wds n) fun _ => 0) 60)).alloc (.cells #[.int .i64 ((n : Nat) : Int), .slice (some ⟨w.heap.size, 0, none⟩) (wds n) (wds n)] 59)) from (((Below.refl _ _).alloc (Nat.le_refl _) _).alloc (by simp) _))
  go_enter Try.func17, Try.ntmps17
  go_wp2_with fail
  go_ret
  exact ⟨_, rfl, _, HG.out, by omega, by omega, HB.out⟩

/-- How many blocks a set of v has. -/
def clampN (v : Int) : Nat := (min (max 0 v) 4096).toNat
theorem clampN_le (v : Int) : clampN v ≤ 4096 := by unfold clampN; omega
theorem new_any (v : Int) (w : World) : Calls Try.prog 17 #[.int .i64 v] w fun e w' => ∃ g gw, e = .returned (.pointer (some ⟨g, 0, none⟩)) ∧ SetAt w' g gw (clampN v) (fun _ => 0) ∧ w.heap.size ≤ g ∧ w.heap.size ≤ gw ∧ Below w.heap.size w w' := by
  by_cases h0 : v ≤ 0
  · rw [show clampN v = 0 by unfold clampN; omega]
    exact new_zero v h0 w
  · by_cases h1 : 4096 < v
    · rw [show clampN v = 4096 by unfold clampN; omega]
      exact new_big v h1 w
    · have := new_some v.toNat (by omega) (by omega) w
      rw [show ((v.toNat : Nat) : Int) = v by omega, show v.toNat = clampN v by unfold clampN; omega] at this
      exact this

/-- Is block k there? -/
def bitv (x : Nat → BitVec 64) (k : Nat) : Bool := (x (k / 64)).getLsbD (k % 64)
def hasF (n : Nat) (x : Nat → BitVec 64) (i : Int) : Bool := decide (0 ≤ i ∧ i < (n : Int)) && bitv x i.toNat

theorem SetAt.c0 {w : World} {g gw n : Nat} {x : Nat → BitVec 64} (h : SetAt w g gw n x) : w.cell? ⟨g, 0, none⟩ = some (.int .i64 (n : Int)) := by rw [cell_of_row w g 0 _ _ _ h.hs]; rfl
theorem SetAt.c1 {w : World} {g gw n : Nat} {x : Nat → BitVec 64} (h : SetAt w g gw n x) : w.cell? ⟨g, 1, none⟩ = some (.slice (some ⟨gw, 0, none⟩) (wds n) (wds n)) := by rw [cell_of_row w g 1 _ _ _ h.hs]; rfl

theorem bit_test (y : BitVec 64) (j : Nat) : (bits .and .u64 (Q y / 2 ^ j) 1 == 1) = y.getLsbD j := by
  have hq : Q y / 2 ^ j = ((y.toNat / 2 ^ j : Nat) : Int) := by unfold Q; norm_cast
  have hl : y.toNat / 2 ^ j < 18446744073709551616 := Nat.lt_of_le_of_lt (Nat.div_le_self _ _) y.isLt
  rw [hq, show (1 : Int) = ((1 : Nat) : Int) from rfl, u64_and_nat _ _ hl (by decide), Nat.and_one_is_mod]
  have : y.getLsbD j = decide (y.toNat / 2 ^ j % 2 = 1) := by
    show y.toNat.testBit j = _
    rw [Nat.testBit_eq_decide_div_mod_eq]
  rw [this]
  by_cases h : y.toNat / 2 ^ j % 2 = 1
  · rw [h]; rfl
  · have h0 : y.toNat / 2 ^ j % 2 = 0 := by omega
    rw [h0]; rfl

set_option maxRecDepth 100000 in
set_option maxHeartbeats 1000000 in
theorem has_in (g gw n k : Nat) (x : Nat → BitVec 64) (w : World) (hS : SetAt w g gw n x) (hk : k < n) (hn : n ≤ 4096) :
    Calls Try.prog 18 #[.pointer (some ⟨g, 0, none⟩), .int .i64 (k : Int)] w fun e w' => e = .returned (.bool (bitv x k)) ∧ w = w' := by
  have hc0 := hS.c0
  have hc1 := hS.c1
  have hcw : w.cell? ⟨gw, k / 64, none⟩ = some (.int .u64 (Q (x (k / 64)))) := cell_rowQ hS.hw (by unfold wds; omega)
  have hk0 : (0 : Int) ≤ (k : Int) := by omega
  have hk1 : (k : Int) < (n : Int) := by omega
  have hk2 : (n : Int) ≤ 4096 := by omega
  have hd0 : (0 : Int) ≤ (k : Int) / 64 := by omega
  have hd1 : (k : Int) / 64 < ((wds n : Nat) : Int) := by unfold wds; omega
  go_enter Try.func18, Try.ntmps18
  go_wp2_with fail
  rw [bit_test]
  go_ret
  exact ⟨rfl, rfl⟩

set_option maxHeartbeats 400000 in
theorem has_out (g gw n : Nat) (i : Int) (x : Nat → BitVec 64) (w : World) (hS : SetAt w g gw n x) (hi : i < 0 ∨ (n : Int) ≤ i) :
    Calls Try.prog 18 #[.pointer (some ⟨g, 0, none⟩), .int .i64 i] w fun e w' => e = .returned (.bool false) ∧ w = w' := by
  have hc0 := hS.c0
  by_cases h0 : i < 0
  · clear hi
    go_enter Try.func18, Try.ntmps18
    go_wp2_with fail
    go_ret
    exact ⟨rfl, rfl⟩
  · have h1 : (n : Int) ≤ i := by omega
    have h2 : 0 ≤ i := by omega
    clear hi h0
    go_enter Try.func18, Try.ntmps18
    go_wp2_with fail
    go_ret
    exact ⟨rfl, rfl⟩
theorem has_any (g gw n : Nat) (i : Int) (x : Nat → BitVec 64) (w : World) (hS : SetAt w g gw n x) (hn : n ≤ 4096) :
    Calls Try.prog 18 #[.pointer (some ⟨g, 0, none⟩), .int .i64 i] w fun e w' => e = .returned (.bool (hasF n x i)) ∧ w = w' := by
  by_cases h : 0 ≤ i ∧ i < (n : Int)
  · have := has_in g gw n i.toNat x w hS (by omega) hn
    rw [show ((i.toNat : Nat) : Int) = i by omega] at this
    rw [show hasF n x i = bitv x i.toNat by unfold hasF; rw [decide_eq_true h]; rfl]
    exact this
  · rw [show hasF n x i = false by unfold hasF; rw [decide_eq_false h]; rfl]
    exact has_out g gw n i x w hS (by omega)

/-- The words with block k's bit turned. -/
def flipv (x : Nat → BitVec 64) (k : Nat) : Nat → BitVec 64 := upd x (k / 64) (x (k / 64) ^^^ (1#64 <<< (k % 64)))
theorem bitv_flip (x : Nat → BitVec 64) (k j : Nat) : bitv (flipv x k) j = if j = k then !bitv x j else bitv x j := by
  unfold bitv flipv upd
  by_cases h : j / 64 = k / 64
  · rw [if_pos h, BitVec.getLsbD_xor, h, BitVec.getLsbD_shiftLeft]
    by_cases e : j = k
    · subst e
      have : j % 64 < 64 := by omega
      simp [this]
    · rw [if_neg e]
      have h2 : j % 64 ≠ k % 64 := by omega
      have h3 : (decide (j % 64 < 64) && !decide (j % 64 < k % 64) && (1#64).getLsbD (j % 64 - k % 64)) = false := by
        by_cases h4 : j % 64 < k % 64
        · simp [h4]
        · have : (1#64).getLsbD (j % 64 - k % 64) = false := by
            rw [BitVec.getLsbD_one]
            simp
            omega
          simp [this]
      rw [h3]
      simp
  · rw [if_neg h, if_neg (by intro e; subst e; exact h rfl)]

theorem u64_xor_nat (a b : Nat) (ha : a < 18446744073709551616) (hb : b < 18446744073709551616) : bits .xor .u64 (a : Int) (b : Int) = ((a ^^^ b : Nat) : Int) := by
  have hx : a ^^^ b < 2 ^ 64 := Nat.xor_lt_two_pow (by omega) (by omega)
  show IntKind.u64.wrap ((BitVec.ofInt 64 (a : Int) ^^^ BitVec.ofInt 64 (b : Int)).toNat : Int) = _
  rw [BitVec.toNat_xor, ofInt_u64 a (by omega), ofInt_u64 b (by omega), IntKind.wrap_u64]
  omega
theorem Q_flip (y : BitVec 64) (j : Nat) (hj : j < 64) : bits .xor .u64 (Q y) (IntKind.u64.wrap (2 ^ j)) = Q (y ^^^ (1#64 <<< j)) := by
  have hp : 2 ^ j < 18446744073709551616 := Nat.pow_lt_pow_right (a := 2) (n := 64) (by decide) hj
  have h2 : ((2 : Int) ^ j) = ((2 ^ j : Nat) : Int) := by norm_cast
  have h3 : (1#64 <<< j).toNat = 2 ^ j := by
    rw [BitVec.toNat_shiftLeft, Nat.shiftLeft_eq]
    simp only [BitVec.toNat_ofNat]
    rw [show 1 % 2 ^ 64 = 1 from rfl, Nat.one_mul, Nat.mod_eq_of_lt hp]
  rw [h2, wrap_nat _ hp]
  unfold Q
  rw [u64_xor_nat _ _ y.isLt hp, BitVec.toNat_xor, h3]

set_option maxRecDepth 100000 in
set_option maxHeartbeats 1000000 in
theorem put_in (g gw n k : Nat) (x : Nat → BitVec 64) (there : Bool) (w : World) (hS : SetAt w g gw n x) (hk : k < n) (hn : n ≤ 4096) (hb : bitv x k = !there) :
    Calls Try.prog 35 #[.pointer (some ⟨g, 0, none⟩), .int .i64 (k : Int), .bool there] w fun e w' => e = .returned (.bool true) ∧ SetAt w' g gw n (flipv x k) ∧ w.grownBy w' (some gw) := by
  have HS := Lib.hid hS
  have HB := Lib.hid hb
  have HKN := Lib.hid hk
  have HH := Lib.hid (has_in g gw n k x w hS hk hn)
  have hc0 := hS.c0
  have hc1 := hS.c1
  have hcw : w.cell? ⟨gw, k / 64, none⟩ = some (.int .u64 (Q (x (k / 64)))) := cell_rowQ hS.hw (by unfold wds; omega)
  have hfw : w.frozen? ⟨gw, k / 64, none⟩ = false := frozen_of_row w _ _ _ _ hS.hw
  have hk0 : (0 : Int) ≤ (k : Int) := by omega
  have hk1 : (k : Int) < (n : Int) := by omega
  have hk2 : (n : Int) ≤ 4096 := by omega
  have hd0 : (0 : Int) ≤ (k : Int) / 64 := by omega
  have hd1 : (k : Int) / 64 < ((wds n : Nat) : Int) := by unfold wds; omega
  clear hS hb
  go_enter Try.func35, Try.ntmps35
  go_wp2_with (go_at_call 18; refine HH.out.mono ?_; rintro e w2 ⟨rfl, rfl⟩; rw [HB.out])
  have ht1 : (k : Int).tdiv 64 = (k : Int) / 64 := Int.tdiv_eq_ediv_of_nonneg hk0
  have ht2 : IntKind.i64.wrap ((k : Int) / 64) = (k : Int) / 64 := IntWalk.i64_in _ (by omega)
  have ht3 : (k : Int).tmod 64 = (k : Int) % 64 := Int.tmod_eq_emod_of_nonneg hk0
  have ht4 : ((k : Int) / 64).toNat = k / 64 := by omega
  have ht5 : ((k : Int) % 64).toNat = k % 64 := by omega
  have ht6 : (0 : Int) ≤ (k : Int) % 64 := by omega
  have ht7 : IntKind.i64.wrap ((k : Int) % 64) = (k : Int) % 64 := IntWalk.i64_in _ (by omega)
  go_still_tail 13, (by kernel_rfl)
  rw [Q_flip _ _ (by omega)]
  clear ht1 ht2 ht3 ht4 ht5 ht6 ht7
  have HN := Lib.hid (show SetAt (World.setCell { heap := w.heap, tape := w.tape, drawn := w.drawn + 1, os := w.os, output := w.output } ⟨gw, k / 64, none⟩ (.int .u64 (Q (x (k / 64) ^^^ (1#64 <<< (k % 64)))))) g gw n (flipv x k) from ⟨(heap_setCell_other _ _ _ _ HS.out.ne).trans HS.out.hs, heap_set_rowQ _ HS.out.hw (by have := HKN.out; unfold wds; omega), HS.out.ne⟩)
  have HG := Lib.hid (show w.grownBy (World.setCell { heap := w.heap, tape := w.tape, drawn := w.drawn + 1, os := w.os, output := w.output } ⟨gw, k / 64, none⟩ (.int .u64 (Q (x (k / 64) ^^^ (1#64 <<< (k % 64)))))) (some gw) from grown_setCell (grown_drew (grown_refl _ _)) (.inr rfl) _)
  go_wp2_with fail
  go_ret
  exact ⟨rfl, HN.out, HG.out⟩

/-- Does a put, or a drop, turn the bit? -/
def putB (n : Nat) (x : Nat → BitVec 64) (i : Int) (there : Bool) : Bool := decide (0 ≤ i ∧ i < (n : Int)) && (bitv x i.toNat != there)
def putX (n : Nat) (x : Nat → BitVec 64) (i : Int) (there : Bool) : Nat → BitVec 64 := if putB n x i there then flipv x i.toNat else x

set_option maxHeartbeats 1000000 in
theorem put_not (g gw n : Nat) (i : Int) (x : Nat → BitVec 64) (there : Bool) (w : World) (hS : SetAt w g gw n x) (hn : n ≤ 4096) (hp : putB n x i there = false) :
    Calls Try.prog 35 #[.pointer (some ⟨g, 0, none⟩), .int .i64 i, .bool there] w fun e w' => e = .returned (.bool false) ∧ w = w' := by
  have hc0 := hS.c0
  by_cases h0 : i < 0
  · clear hp
    go_enter Try.func35, Try.ntmps35
    go_wp2_with fail
    go_ret
    exact ⟨rfl, rfl⟩
  · by_cases h1 : (n : Int) ≤ i
    · clear hp
      go_enter Try.func35, Try.ntmps35
      go_wp2_with fail
      go_ret
      exact ⟨rfl, rfl⟩
    · obtain ⟨k, rfl⟩ : ∃ k : Nat, i = (k : Int) := ⟨i.toNat, by omega⟩
      have hk : k < n := by omega
      have hb : bitv x k = there := by
        unfold putB at hp
        rw [decide_eq_true (by omega), Bool.true_and] at hp
        simpa using hp
      have hk0 : (0 : Int) ≤ (k : Int) := by omega
      have hk1 : (k : Int) < (n : Int) := by omega
      have HH := Lib.hid (has_in g gw n k x w hS hk hn)
      have HB := Lib.hid hb
      clear hp hb h0 h1
      go_enter Try.func35, Try.ntmps35
      go_wp2_with (go_at_call 18; refine HH.out.mono ?_; rintro e w2 ⟨rfl, rfl⟩; rw [HB.out])
      go_ret
      exact ⟨rfl, rfl⟩
theorem put_any (g gw n : Nat) (i : Int) (x : Nat → BitVec 64) (there : Bool) (w : World) (hS : SetAt w g gw n x) (hn : n ≤ 4096) :
    Calls Try.prog 35 #[.pointer (some ⟨g, 0, none⟩), .int .i64 i, .bool there] w fun e w' => e = .returned (.bool (putB n x i there)) ∧ SetAt w' g gw n (putX n x i there) ∧ w.grownBy w' (some gw) := by
  unfold putX
  cases hp : putB n x i there with
  | false =>
    refine (put_not g gw n i x there w hS hn hp).mono ?_
    rintro e w' ⟨rfl, rfl⟩
    exact ⟨rfl, hS, grown_refl _ _⟩
  | true =>
    have hp2 := hp
    unfold putB at hp
    rw [Bool.and_eq_true] at hp
    have h1 := of_decide_eq_true hp.1
    have h2 : bitv x i.toNat = !there := by
      have := hp.2
      cases hb : bitv x i.toNat <;> cases there <;> simp_all
    have := put_in g gw n i.toNat x there w hS (by omega) hn h2
    rw [show ((i.toNat : Nat) : Int) = i by omega] at this
    rw [if_pos rfl]
    exact this
set_option maxHeartbeats 400000 in
theorem putc_any (g gw n : Nat) (i : Int) (x : Nat → BitVec 64) (w : World) (hS : SetAt w g gw n x) (hn : n ≤ 4096) :
    Calls Try.prog 19 #[.pointer (some ⟨g, 0, none⟩), .int .i64 i] w fun e w' => e = .returned (.bool (putB n x i true)) ∧ SetAt w' g gw n (putX n x i true) ∧ w.grownBy w' (some gw) := by
  have HH := Lib.hid (put_any g gw n i x true w hS hn)
  clear hS
  go_enter Try.func19, Try.ntmps19
  go_wp2_with (go_at_call 35; refine HH.out.mono ?_; rintro e w2 ⟨rfl, hs, hg⟩)
  go_ret
  exact ⟨rfl, hs, hg⟩
set_option maxHeartbeats 400000 in
theorem dropc_any (g gw n : Nat) (i : Int) (x : Nat → BitVec 64) (w : World) (hS : SetAt w g gw n x) (hn : n ≤ 4096) :
    Calls Try.prog 23 #[.pointer (some ⟨g, 0, none⟩), .int .i64 i] w fun e w' => e = .returned (.bool (putB n x i false)) ∧ SetAt w' g gw n (putX n x i false) ∧ w.grownBy w' (some gw) := by
  have HH := Lib.hid (put_any g gw n i x false w hS hn)
  clear hS
  go_enter Try.func23, Try.ntmps23
  go_wp2_with (go_at_call 35; refine HH.out.mono ?_; rintro e w2 ⟨rfl, hs, hg⟩)
  go_ret
  exact ⟨rfl, hs, hg⟩

/-- The first block from i on that is not there. -/
def firstF (n : Nat) (b : Nat → Bool) (i : Nat) : Nat := if h : i < n ∧ b i = true then firstF n b (i + 1) else i
  termination_by n - i
def FirstAt (g n : Nat) (b : Nat → Bool) (i : Nat) (w : World) (a : Act) (w' : World) : Prop :=
  ∃ (j : Nat) (u : Nat → Value), j ≤ 4097 ∧ firstF n b j = firstF n b i ∧ a = { tmps := #[.pointer (some ⟨g, 0, none⟩), .int .i64 (j : Int), undef, undef, .int .i64 0, u 5, u 6, u 7, u 8, u 9, u 10, u 11, u 12, u 13, u 14, u 15, u 16, u 17, u 18], defers := [] } ∧ w' = w
set_option maxRecDepth 100000 in
set_option maxHeartbeats 1000000 in
theorem first_any (g gw n i : Nat) (x : Nat → BitVec 64) (w : World) (hS : SetAt w g gw n x) (hn : n ≤ 4096) (hi : i ≤ 4097) :
    Calls Try.prog 37 #[.pointer (some ⟨g, 0, none⟩), .int .i64 (i : Int)] w fun e w' => e = .returned (.int .i64 (firstF n (bitv x) i : Int)) ∧ w = w' := by
  have HS := Lib.hid hS
  have hc0 := hS.c0
  clear hS
  go_enter Try.func37, Try.ntmps37
  go_wp2
  refine wp_scope_from 0 (FirstAt g n (bitv x) i w) (fun a' _ => 5000 - (intOf (a'.tmps.getD 1 undef)).toNat) rfl ?_ ?_
  · rintro a' wr ⟨j, u, hj, hf, rfl, rfl⟩
    have hj0 : (0 : Int) ≤ (j : Int) := by omega
    by_cases hlt : j < n
    · have hlt1 : (j : Int) < (n : Int) := by omega
      have hlt2 : (j : Int) < 4096 := by omega
      have HH := Lib.hid (has_in g gw n j x wr HS.out hlt hn)
      cases hb : bitv x j with
      | true =>
        have hstep : firstF n (bitv x) (j + 1) = firstF n (bitv x) i := by
          rw [← hf, firstF.eq_def n (bitv x) j, dif_pos ⟨hlt, hb⟩]
        have HST := Lib.hid hstep
        have HB := Lib.hid hb
        clear hstep hb hf
        go_wp2_with (go_at_call 18; refine HH.out.mono ?_; rintro e w2 ⟨rfl, rfl⟩; rw [HB.out])
        go_step3
        refine ⟨rfl, ⟨j + 1, fun k => ([.int .i64 (j : Int), .pointer (some ⟨g, 0, none⟩), .pointer (some ⟨g, 0, none⟩), .pointer (some ⟨g, 0, none⟩), .int .i64 (n : Int), .bool true, .bool true, .pointer (some ⟨g, 0, none⟩), .int .i64 (j : Int), .bool true, .bool true, .int .i64 (j : Int), .int .i64 ((j : Int) + 1), u 18] : List Value).getD (k - 5) undef, by omega, HST.out, rfl, rfl⟩, ?_⟩
        simp [intOf]
        omega
      | false =>
        have hstop : firstF n (bitv x) i = j := by
          rw [← hf, firstF.eq_def n (bitv x) j, dif_neg (by rw [hb]; simp)]
        have HST := Lib.hid hstop
        have HB := Lib.hid hb
        clear hstop hb hf
        go_wp2_with (go_at_call 18; refine HH.out.mono ?_; rintro e w2 ⟨rfl, rfl⟩; rw [HB.out])
        simp only [Exit.jump]
        go_ret
        exact ⟨by rw [HST.out]; rfl, rfl⟩
    · have hstop : firstF n (bitv x) i = j := by
        rw [← hf, firstF.eq_def n (bitv x) j, dif_neg (by simp [hlt])]
      have HST := Lib.hid hstop
      have hlt1 : (n : Int) ≤ (j : Int) := by omega
      clear hstop hf
      go_wp2
      simp only [Exit.jump]
      go_ret
      exact ⟨by rw [HST.out]; rfl, rfl⟩
  · intro hrest
    have HR := Lib.hid hrest
    clear hrest
    go_wp2
    go_step3
    go_step
    go_step
    exact HR.out _ _ ⟨i, fun _ => undef, hi, rfl, rfl, rfl⟩

end Go.Proofs.Ytdcndfcdjlpecaa
