/-
  HKDF's chain as plain functions; the walks of the program's Extract and Expand (package derive).
-/
import Derived.Test.YtnnllficjljjkaaDoorMac
namespace Go.Proofs.YtnnllficjljjkaaDoor
open Go.RowKit
set_option linter.unusedVariables false
set_option linter.unusedSimpArgs false

/-- The chain: its k-th list, and the first k behind one another. -/
def expT (key info : List (BitVec 8)) : Nat → List (BitVec 8)
  | 0 => []
  | k + 1 => (List.range 32).map (macS key (expT key info k ++ info ++ [BitVec.ofNat 8 (k + 1)]))
def expO (key info : List (BitVec 8)) : Nat → List (BitVec 8)
  | 0 => []
  | k + 1 => expO key info k ++ expT key info (k + 1)
theorem expT_length (key info : List (BitVec 8)) : ∀ k, (expT key info k).length ≤ 32
  | 0 => by simp [expT]
  | k + 1 => by simp [expT]
theorem expT_length' (key info : List (BitVec 8)) {k : Nat} (h : 0 < k) : (expT key info k).length = 32 := by
  cases k with
  | zero => omega
  | succ k => simp [expT]
theorem expO_length (key info : List (BitVec 8)) : ∀ k, (expO key info k).length = 32 * k
  | 0 => rfl
  | k + 1 => by rw [expO, List.length_append, expO_length key info k, expT_length' key info (by omega)]; omega
theorem expO_front (key info : List (BitVec 8)) : ∀ (d k : Nat), (expO key info (k + d)).take (32 * k) = expO key info k
  | 0, k => by rw [Nat.add_zero, List.take_of_length_le (by rw [expO_length]; omega)]
  | d + 1, k => by
    rw [← Nat.add_assoc, expO, List.take_append_of_le_length (by rw [expO_length]; omega), expO_front key info d k]
/-- What is expanded to n bytes. -/
def expS (key info : List (BitVec 8)) (n : Nat) : List (BitVec 8) := (expO key info ((n + 31) / 32)).take n
theorem expS_at (key info : List (BitVec 8)) {n k : Nat} (h : n ≤ 32 * k) : (expO key info k).take n = expS key info n := by
  obtain ⟨d, rfl⟩ : ∃ d, k = (n + 31) / 32 + d := ⟨k - (n + 31) / 32, by omega⟩
  unfold expS
  rw [← expO_front key info d ((n + 31) / 32), List.take_take, Nat.min_eq_left (by omega)]
theorem expS_length (key info : List (BitVec 8)) (n : Nat) : (expS key info n).length = n := by
  unfold expS; rw [List.length_take, expO_length]; omega
theorem expS_take (key info : List (BitVec 8)) {n m : Nat} (h : n ≤ m) : (expS key info m).take n = expS key info n := by
  rw [← expS_at key info (n := n) (k := (m + 31) / 32) (by omega)]
  unfold expS
  rw [List.take_take, Nat.min_eq_left h]
theorem expO_part (key info : List (BitVec 8)) : ∀ {k j : Nat}, j < k → ((expO key info k).drop (32 * j)).take 32 = expT key info (j + 1)
  | 0, j, h => by omega
  | k + 1, j, h => by
    by_cases e : j = k
    · subst e
      rw [expO, List.drop_append_of_le_length (by rw [expO_length]; omega), List.drop_of_length_le (by rw [expO_length]; omega), List.nil_append, List.take_of_length_le (expT_length _ _ _)]
    · have ih := expO_part key info (k := k) (j := j) (by omega)
      rw [expO, List.drop_append_of_le_length (by rw [expO_length]; omega), List.take_append_of_le_length (by rw [List.length_drop, expO_length]; omega)]
      exact ih

theorem slice_hm {A : Option Addr} {n c k : Nat} (h2 : k ≤ c) (w : World) : (Instr.sliceAt 25 (.slice A n c) none (some (.int .i64 k)) (some (.int .i64 k))).run Tryd.prog w = .ok (.slice A k k) w := by
  rw [run_sliceAt_slice _ _ _ _ _ _ elem_B, run_slice_hm _ _ _ _ _ elem_B _ _ _ _ (by omega) (by omega) (by omega), size_B]
  show Result.ok (Value.slice (if (k : Int).toNat = 0 then A else A.map (·.add (0 * 1))) ((k : Int).toNat - 0) ((k : Int).toNat - 0)) w = _
  have := cutA_zero A ((k : Int).toNat)
  unfold cutA at this
  rw [this]
  rfl
theorem OwnB.cap {w : World} {base : Nat} {v : Value} {l : List (BitVec 8)} (h : OwnB w base v l) : ∃ a c, v = .slice a l.length c ∧ l.length ≤ c := by
  rcases h.2 with ⟨rfl, h0⟩ | ⟨g, cap, cur, rfl, _, _, hn, _, _, _⟩
  · exact ⟨none, 0, by rw [h0], by omega⟩
  · exact ⟨_, cap, rfl, hn⟩

theorem BRow.recap {w : World} {a : Option Addr} {n c c' : Nat} {l : List (BitVec 8)} (h : BRow w (.slice a n c) l) (hc : a = none → c' = 0) : BRow w (.slice a n c') l := by
  obtain ⟨a', c0, e, _, hp⟩ := h
  simp only [Value.slice.injEq] at e
  obtain ⟨rfl, rfl, _⟩ := e
  exact ⟨a, c', rfl, hc, hp⟩

set_option maxRecDepth 100000 in
set_option maxHeartbeats 1000000 in
theorem expand_bad (f : Nat → BitVec 8) (v : Value) (n : Int) (w : World) (h : n < 0 ∨ 8160 < n) :
    Calls Tryd.prog 37 #[.agg (rowB 32 f), v, .int .i64 n] w fun e w' => e = .returned (.tuple #[.slice none 0 0, .int .i64 1]) ∧ Below w.heap.size w w' := by
  by_cases h1 : n < 0
  · clear h
    go_enter Tryd.func37, Tryd.ntmps37
    go_wp2
    go_ret2
    exact ⟨rfl, below_allocS (Below.refl _ _) _⟩
  · have h2 : 8160 < n := by omega
    clear h
    go_enter Tryd.func37, Tryd.ntmps37
    go_wp2
    go_ret2
    exact ⟨rfl, below_allocS (Below.refl _ _) _⟩

set_option maxRecDepth 100000 in
set_option maxHeartbeats 2000000 in
theorem expand_any (f : Nat → BitVec 8) (v : Value) (info : List (BitVec 8)) (n : Nat) (w : World) (hv : BRow w v info) (hi : info.length ≤ 1000000) (hn : n ≤ 8160) :
    Calls Tryd.prog 37 #[.agg (rowB 32 f), v, .int .i64 (n : Int)] w fun e w' => (∃ a, e = .returned (.tuple #[.slice a n n, .int .i64 0]) ∧ BRow w' (.slice a n n) (expS ((List.range 32).map f) info n)) ∧ Below w.heap.size w w' := by
  have hn0 : (0 : Int) ≤ (n : Int) := by omega
  have hn1 : (n : Int) ≤ 8160 := by omega
  have HV := Lib.hid hv
  have HI := Lib.hid hi
  obtain ⟨ai, ci, rfl⟩ := hv.shape
  obtain ⟨key, hkey⟩ : ∃ key, key = (List.range 32).map f := ⟨_, rfl⟩
  have HKEY := Lib.hid hkey
  have HKL := Lib.hid (show key.length ≤ 1000000000 by rw [hkey]; simp)
  rw [← hkey]
  clear hv hi hkey
  go_enter Tryd.func37, Tryd.ntmps37
  go_wp2
  have HB := Lib.hid (show Below w.heap.size w (w.alloc (.cells (rowB 32 f) 28)) from below_allocS (Below.refl _ _) _)
  have HG := Lib.hid (show (w.alloc (.cells (rowB 32 f) 28)).heap[w.heap.size]? = some (.cells (rowB 32 f) 28 (0, 0)) from heap_alloc_new _ _)
  have HL := Lib.hid (show BRow (w.alloc (.cells (rowB 32 f) 28)) (.slice none 0 0) (expT key info 0) from ⟨none, 0, rfl, fun _ => rfl, fun h => absurd h (by simp [expT])⟩)
  have HO := Lib.hid (show OwnB (w.alloc (.cells (rowB 32 f) 28)) (w.heap.size + 1) (.slice none 0 0) (expO key info 0) from World.ownsRow_nil _ _ _ _)
  generalize w.alloc (.cells (rowB 32 f) 28) = W at *
  go_loopw [8, 9, 10] (fun o t i wr => ∃ k : Nat, 32 * k < n + 32 ∧ i = .int .i64 ((k : Int) + 1) ∧ OwnB wr (w.heap.size + 1) o (expO key info k) ∧ BRow wr t (expT key info k) ∧ wr.heap[w.heap.size]? = some (.cells (rowB 32 f) 28 (0, 0)) ∧ Below w.heap.size w wr) (fun _ _ i _ => 300 - (intOf i).toNat)
  case atStart => exact ⟨0, by omega, rfl, HO.out, HL.out, HG.out, HB.out⟩
  case round =>
    clear HB HG HL HO
    obtain ⟨k, hk, rfl, ho, ht, hg, hb⟩ := hrel
    have HO := Lib.hid ho
    have HT := Lib.hid ht
    have HG := Lib.hid hg
    have HB := Lib.hid hb
    obtain ⟨ao, co, eo, hco⟩ := ho.cap
    rw [expO_length] at eo hco
    subst eo
    obtain ⟨at_, ct, et⟩ := ht.shape
    subst et
    clear ho ht hg hb
    by_cases hlt : 32 * k < n
    · have hk0 : (0 : Int) ≤ (k : Int) := by omega
      have hk1 : (k : Int) < 255 := by omega
      have hlt1 : ((32 * k : Nat) : Int) < (n : Int) := by omega
      have e8 : ((k : Int) + 1) = B8 (BitVec.ofNat 8 (k + 1)) := by unfold B8; rw [BitVec.toNat_ofNat]; omega
      have HBR := Lib.hid (show BRows ((wr.alloc (.cells #[.int .u8 ((k : Int) + 1)] 5)).alloc (.cells #[.slice at_ (expT key info k).length ct, .slice ai info.length ci, .slice (some ⟨wr.heap.size, 0, none⟩) 1 1] 25)) (.slice (some ⟨wr.heap.size + 1, 0, none⟩) 3 3) [expT key info k, info, [BitVec.ofNat 8 (k + 1)]] from by
        rw [e8]
        have hb1 : Below wr.heap.size wr (wr.alloc (.cells #[.int .u8 (B8 (BitVec.ofNat 8 (k + 1)))] 5)) := below_allocS (Below.refl _ _) _
        have := brows_three (c := 3) (heap_alloc_new (wr.alloc (.cells #[.int .u8 (B8 (BitVec.ofNat 8 (k + 1)))] 5)) (.cells #[.slice at_ (expT key info k).length ct, .slice ai info.length ci, .slice (some ⟨wr.heap.size, 0, none⟩) 1 1] 25)) (HT.out.below (below_allocS hb1 _)) ((HV.out.below HB.out).below (below_allocS hb1 _)) ((brow_mk (c := 1) [BitVec.ofNat 8 (k + 1)] (heap_alloc_new wr _)).below (below_allocS (Below.refl _ _) _))
        simpa using this)
      have HKR := Lib.hid (show BRow ((wr.alloc (.cells #[.int .u8 ((k : Int) + 1)] 5)).alloc (.cells #[.slice at_ (expT key info k).length ct, .slice ai info.length ci, .slice (some ⟨wr.heap.size, 0, none⟩) 1 1] 25)) (.slice (some ⟨w.heap.size, 0, none⟩) 32 32) key from by
        rw [HKEY.out]
        exact (brow_num HG.out).below (below_allocS (below_allocS (Below.refl _ _) _) _))
      have HFL := Lib.hid (show macS key ([expT key info k, info, [BitVec.ofNat 8 (k + 1)]] : List (List (BitVec 8))).flatten = macS key (expT key info k ++ info ++ [BitVec.ofNat 8 (k + 1)]) by simp)
      have HET := Lib.hid (show expT key info (k + 1) = (List.range 32).map (macS key (expT key info k ++ info ++ [BitVec.ofNat 8 (k + 1)])) from rfl)
      have HEO := Lib.hid (show expO key info (k + 1) = expO key info k ++ expT key info (k + 1) from rfl)
      have hlen : ([expT key info k, info, [BitVec.ofNat 8 (k + 1)]] : List (List (BitVec 8))).flatten.length ≤ 999999000 := by
        have := expT_length key info k
        have := HI.out
        simp; omega
      have HLEN := Lib.hid hlen
      clear e8 hlen
      go_wp2_with fail
      refine (mac_any _ _ key _ _ HKR.out HBR.out HKL.out (by simp) HLEN.out).mono ?_
      rintro e w2 ⟨rfl, hb2⟩
      rw [HFL.out]
      obtain ⟨h, hh⟩ : ∃ h, h = macS key (expT key info k ++ info ++ [BitVec.ofNat 8 (k + 1)]) := ⟨_, rfl⟩
      rw [← hh] at HET ⊢
      have HB2 := Lib.hid (show Below wr.heap.size wr w2 from below_keep (below_allocS (below_allocS (Below.refl wr.heap.size wr) _) _) hb2)
      have HZ := Lib.hid (show (Tryd.prog.info? 28).map (·.size) = some (rowB 32 h).size by rw [size32, rowB_size])
      clear hb2 hh HBR HKR HFL HLEN
      go_wp2_with (first
        | (with_reducible refine wpList_alloc_row rfl 28 rfl 32 _ info32 ?_)
        | ((with_reducible show wpList _ _ _ (⟨_, .store 28 _ _, _, _, _, _⟩ :: _) _ _); refine wpList_store_rowTo rfl 28 (.tmp 11) _ rfl rfl w2.heap.size (rowB 32 h) rfl rfl 28 _ (heap_alloc_new _ _) HZ.out (by rw [row_size, rowB_size]) (rowB_oneCell _ _) ?_; obtain ⟨g, eg⟩ : ∃ g, g = w2.heap.size := ⟨_, rfl⟩; have HB3 := Lib.hid (show Below wr.heap.size wr ((w2.alloc (.cells (row 32 fun _ => .int .u8 0) 28)).setRow w2.heap.size (rowB 32 h)) from below_setRow (below_allocS HB2.out _) HB2.out.size _); have HGG := Lib.hid (show ((w2.alloc (.cells (row 32 fun _ => .int .u8 0) 28)).setRow w2.heap.size (rowB 32 h)).heap[g]? = some (.cells (rowB 32 h) 28 (0, 0)) from by rw [eg]; exact heap_setRow_at (heap_alloc_new _ _)); have HGL := Lib.hid (show wr.heap.size ≤ g from by rw [eg]; exact HB2.out.size); have HT3 := Lib.hid (show BRow ((w2.alloc (.cells (row 32 fun _ => .int .u8 0) 28)).setRow w2.heap.size (rowB 32 h)) (.slice (some ⟨g, 0, none⟩) 32 32) (expT key info (k + 1)) from by rw [eg, HET.out]; exact brow_num (heap_setRow_at (heap_alloc_new _ _))); generalize (w2.alloc (.cells (row 32 fun _ => .int .u8 0) 28)).setRow w2.heap.size (rowB 32 h) = w3 at *; rw [← eg]; clear eg; have HO3 := Lib.hid (World.ownsRow.kept HO.out (grown_of_below (r := none) HB3.out) (by cases hv : (Value.slice ao (32 * k) co).ownBlock with | none => exact .inl rfl | some b => exact .inr nofun)))
        | (at_builtin; refine wpList_append_B rfl (.tmp 33) (.tmp 34) rfl (w.heap.size + 1) _ (expO key info k) (expT key info (k + 1)) rfl HO3.out HT3.out (by rw [expO_length, expT_length' _ _ (by omega)]; omega) (by have := HB.out.size; have := HB3.out.size; have := (Array.getElem?_eq_some_iff.1 HG.out).1; omega) ?_; intro v4 w4 hown4 hg4; rw [← HEO.out] at hown4; have HO4 := Lib.hid hown4; have HG4 := Lib.hid hg4; clear hown4 hg4))
      have hne : ∀ b, (Value.slice ao (32 * k) co).ownBlock = some b → w.heap.size + 1 ≤ b := fun b hb => (World.ownsRow.lt HO3.out b hb).1
      have hb4 : Below w.heap.size w w4 := (below_keep HB.out HB3.out).grown HG4.out (below_keep HB.out HB3.out).size (fun b hb => by have := hne b hb; omega)
      have hgk : w4.heap[w.heap.size]? = some (.cells (rowB 32 f) 28 (0, 0)) := (HG4.out.block _ (by have := (Array.getElem?_eq_some_iff.1 HG.out).1; have := HB3.out.size; omega) (by intro e; have := hne _ e.symm; omega)).trans ((HB3.out.block _ (Array.getElem?_eq_some_iff.1 HG.out).1).trans HG.out)
      have hlast : BRow w4 (.slice (some ⟨g, 0, none⟩) 32 32) (expT key info (k + 1)) := by
        rw [HET.out]
        refine brow_num ((HG4.out.block _ (Array.getElem?_eq_some_iff.1 HGG.out).1 ?_).trans HGG.out)
        intro e
        have := (World.ownsRow.lt HO.out _ e.symm).2
        have := HGL.out
        omega
      have HLAST := Lib.hid hlast
      clear hlast hne
      go_roundw
      case rel => exact ⟨k + 1, by omega, by go_num, HO4.out, HLAST.out, hgk, hb4⟩
      case measure => simp [intOf]; omega
    · have hlt1 : ¬ ((32 * k : Nat) : Int) < (n : Int) := by omega
      have hsl := slice_hm (A := ao) (n := 32 * k) (c := co) (k := n) (by omega)
      have HRES := Lib.hid (show BRow wr (.slice ao n n) (expS key info n) from by
        rw [← expS_at key info (n := n) (k := k) (by omega)]
        have h1 := HO.out.brow.cutHi (k := n) (by rw [expO_length]; omega) (by rw [expO_length]; exact hco)
        exact h1.recap (fun hn => by
          have := HO.out.brow
          obtain ⟨a', c', e, hnil, _⟩ := this
          simp only [Value.slice.injEq] at e
          obtain ⟨rfl, _, rfl⟩ := e
          have := hnil hn
          omega))
      go_wp2
      go_ret2
      exact ⟨⟨_, rfl, HRES.out⟩, HB.out⟩

end Go.Proofs.YtnnllficjljjkaaDoor
