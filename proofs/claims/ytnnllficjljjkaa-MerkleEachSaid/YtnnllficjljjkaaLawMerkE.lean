/-
  The walk of the law MerkleEach.
-/
import Derived.Test.YtnnllficjljjkaaMkE
namespace Go.Proofs.Ytnnllficjljjkaa
open Go.RowKit
set_option linter.unusedVariables false
set_option linter.unusedSimpArgs false

set_option maxHeartbeats 1000000 in
theorem merkleEach_out (n : Int) (v : Int) (w : World) (h : n < 1 ∨ 40 < n) :
    Calls Try.prog 5 #[.int .i64 n, .int .u8 v] w fun e w' => e = .returned (.bool true) ∧ Below w.heap.size w w' := by
  by_cases h1 : n < 1
  · clear h
    go_enter Try.func5, Try.ntmps5
    go_wp2_with (go_at_call 12; refine (alive15_any _).mono ?_; rintro e w1 ⟨rfl, hb1⟩)
    go_ret
    exact ⟨rfl, hb1⟩
  · have h2 : 40 < n := by omega
    clear h
    go_enter Try.func5, Try.ntmps5
    go_wp2_with (go_at_call 12; refine (alive15_any _).mono ?_; rintro e w1 ⟨rfl, hb1⟩)
    go_ret
    exact ⟨rfl, hb1⟩

theorem OwnN.capE {w : World} {base : Nat} {v : Value} {l : List (Nat → BitVec 8)} (h : OwnN w base v l) : ∃ a c, v = .slice a l.length c ∧ l.length ≤ c := by
  rcases h.2 with ⟨rfl, h0⟩ | ⟨g, cap, cur, rfl, _, _, hn, _, _, _⟩
  · exact ⟨none, 0, by rw [h0], by omega⟩
  · exact ⟨_, cap, rfl, hn⟩
theorem checkE_path {l : List (List (BitVec 8))} {j : Nat} (hj : j < l.length) (hn : l.length ≤ 1048576) : checkS (rootS l) (l.length : Int) (j : Int) l[j] (pathS l j) = true := by
  unfold checkS
  rw [if_neg (by omega), Int.toNat_natCast, Int.toNat_natCast, path_climb hj]
  exact eqB_self _

set_option maxRecDepth 100000 in
set_option maxHeartbeats 4000000 in
theorem merkleEach_in (n : Nat) (y : BitVec 8) (w : World) (h1 : 1 ≤ n) (h2 : n ≤ 40) :
    Calls Try.prog 5 #[.int .i64 (n : Int), .int .u8 (B8 y)] w fun e w' => e = .returned (.bool true) ∧ Below w.heap.size w w' := by
  have hn1 : (1 : Int) ≤ (n : Int) := by omega
  have hn2 : (n : Int) ≤ 40 := by omega
  go_enter Try.func5, Try.ntmps5
  go_wp2_with (go_at_call 12; refine (alive15_any _).mono ?_; rintro e w1 ⟨rfl, hb1⟩; have HB1 := Lib.hid hb1; clear hb1)
  go_loopw [6, 7] (fun s i wr => ∃ k : Nat, k ≤ n ∧ i = .int .i64 k ∧ EachAt wr w.heap.size s y k ∧ Below w.heap.size w wr) (fun _ i _ => n - (intOf i).toNat)
  case atStart => exact ⟨0, Nat.zero_le _, rfl, eachAt_zero _ _ _, HB1.out⟩
  case round =>
    clear HB1
    obtain ⟨k, hk, rfl, he, hb⟩ := hrel
    have HE := Lib.hid he
    have HB := Lib.hid hb
    clear he hb
    have hk0 : (0 : Int) ≤ (k : Int) := by omega
    by_cases hlt : k < n
    · have hk1 : (k : Int) < (n : Int) := by omega
      obtain ⟨us, hl, hown, hel⟩ := HE.out
      have HL := Lib.hid hl
      have HO := Lib.hid hown
      have HEL := Lib.hid hel
      clear hl hown hel
      have hw8 : IntKind.u8.wrap (k : Int) = (k : Int) := by
        show (k : Int) % 256 = k
        omega
      go_wp2_with (at_builtin; refine wpList_append_S1 rfl (.tmp 30) (.tmp 35) rfl w.heap.size _ us (.slice (some ⟨wr.heap.size, 0, none⟩) 2 2) rfl rfl (World.ownsRow.alloc (World.ownsRow.alloc HO.out _) _) _ _ rfl ?cell ?sz ?bs ?_; rotate_left 3; intro v3 w3 hown3 hg3)
      case cell => exact (cell_of_row _ _ 0 _ _ (0, 0) (heap_alloc2_new wr _ _)).trans rfl
      case sz => have := HL.out; omega
      case bs => have := HB.out.size; simp; omega
      go_roundw
      case rel => exact ⟨k + 1, by omega, by go_num, EachAt.step HL.out HO.out HEL.out hown3 hg3, (below_allocS (below_allocS HB.out _) _).grown hg3 (below_allocS (below_allocS HB.out _) _).size (fun k hk => (World.ownsRow.lt HO.out k hk).1)⟩
      case measure => simp [intOf]; omega
    · obtain rfl : k = n := by omega
      have hk1 : ¬ (k : Int) < (k : Int) := by omega
      obtain ⟨A, c, rfl, hc⟩ := HE.out.cap
      have HV := Lib.hid (HE.out.brows (by omega))
      have HC := Lib.hid hc
      clear hc HE
      go_wp2_with fail
      go_loopw [8] (fun s w2 => ∃ M : Nat, M ≤ 6 ∧ s = .int .i64 M ∧ (M = 0 ∨ 2 ^ (M - 1) < k) ∧ w2 = wr) (fun s _ => 7 - (intOf s).toNat)
      case atStart => exact ⟨0, by omega, rfl, .inl rfl, rfl⟩
      case round =>
        obtain ⟨M, hM, rfl, hM2, rfl⟩ := hrel
        have hM0 : (0 : Int) ≤ (M : Int) := by omega
        have hM6 : (M : Int) ≤ 6 := by omega
        have HM2 := Lib.hid hM2
        obtain ⟨q, hq⟩ : ∃ q : Nat, q = 2 ^ M := ⟨_, rfl⟩
        have hqc : (2 : Int) ^ M = (q : Int) := by rw [hq]; exact (Int.natCast_pow 2 M).symm
        have hq64 : q ≤ 64 := by rw [hq]; exact Nat.pow_le_pow_right (by decide) hM
        have hw64 : wrap64 (2 ^ M) = (q : Int) := by rw [hqc]; exact IntWalk.wrap64_in _ ⟨by omega, by omega⟩
        clear hqc hq64
        have HQ := Lib.hid hq
        clear hM2 hq
        by_cases hqk : q < k
        · have hq1 : (q : Int) < (k : Int) := by omega
          go_wp2_with fail
          go_roundw
          case rel => exact ⟨M + 1, by
            have := HQ.out
            rcases Nat.lt_or_ge M 6 with h | h
            · omega
            · exfalso
              obtain rfl : M = 6 := by omega
              omega, by go_num, .inr (by rw [Nat.add_sub_cancel, ← HQ.out]; exact hqk), trivial⟩
          case measure => simp [intOf]; omega
        · have hq1 : ¬ ((q : Int) < (k : Int)) := by omega
          have hle : ∀ i, i < k → (pathS (listsE y k) i).length ≤ M := fun i hi => by
            rw [pathS_length k _ i (by rw [listsE_length]; exact hi) (listsE_length _ _)]
            exact dirs_le M k i hi (by rw [← HQ.out]; omega)
          have hfull : bits BinOp.and IntKind.i64 (k : Int) (IntKind.i64.wrap ((k : Int) - 1)) = 0 → ∀ i, i < k → (pathS (listsE y k) i).length = M := fun hl i hi => by
            obtain ⟨j, hj, e⟩ := pow_of_land k h2 h1 hl
            have hjM : j = M := by
              have h3 : 2 ^ j ≤ 2 ^ M := by rw [← e, ← HQ.out]; omega
              have h4 : j ≤ M := (Nat.pow_le_pow_iff_right (by decide)).1 h3
              rcases HM2.out with h | h
              · omega
              · rw [e] at h
                have := (Nat.pow_lt_pow_iff_right (by decide)).1 h
                omega
            rw [pathS_length k _ i (by rw [listsE_length]; exact hi) (listsE_length _ _)]
            subst hjM
            rw [e] at hi ⊢
            exact dirs_full j i hi
          have HLE := Lib.hid hle
          have HFU := Lib.hid hfull
          clear hle hfull
          obtain ⟨r, hr⟩ : ∃ r, r = rootS (listsE y k) := ⟨_, rfl⟩
          have HRT := Lib.hid (show ∀ w, BRows w (.slice A k c) (listsE y k) → Calls Try.prog 13 #[.slice A k c] w fun e w' => e = .returned (.agg (rowB 32 r)) ∧ Below w.heap.size w w' from fun w hv => by
            rw [hr]; exact root_any k (listsE y k) A c w (listsE_length _ _).symm hv HC.out (by omega) (by rw [listsE_flat]; omega))
          have HR := Lib.hid hr
          have HZ := Lib.hid (show (Try.prog.info? 25).map (·.size) = some (rowB 32 r).size by rw [size32, rowB_size])
          clear hr
          go_wp2_with (first
            | (go_at_call 13; refine (HRT.out _ HV.out).mono ?_; rintro e w3 ⟨rfl, hb3⟩; have HB3 := Lib.hid hb3; clear hb3)
            | (with_reducible refine wpList_alloc_row rfl 25 rfl 32 _ info32 ?_)
            | ((with_reducible show wpList _ _ _ (⟨_, .store 25 _ _, _, _, _, _⟩ :: _) _ _); refine wpList_store_rowTo rfl 25 _ _ rfl rfl w3.heap.size (rowB 32 r) rfl rfl 25 _ (heap_alloc_new _ _) HZ.out (by rw [row_size, rowB_size]) (rowB_oneCell _ _) ?_; obtain ⟨g, eg⟩ : ∃ g, g = w3.heap.size := ⟨_, rfl⟩; have HB4 := Lib.hid (show Below wr.heap.size wr ((w3.alloc (.cells (row 32 fun _ => .int .u8 0) 25)).setRow w3.heap.size (rowB 32 r)) from below_setRow (below_allocS HB3.out _) HB3.out.size _); have HG4 := Lib.hid (show ((w3.alloc (.cells (row 32 fun _ => .int .u8 0) 25)).setRow w3.heap.size (rowB 32 r)).heap[g]? = some (.cells (rowB 32 r) 25 (0, 0)) from by rw [eg]; exact heap_setRow_at (heap_alloc_new _ _)); generalize (w3.alloc (.cells (row 32 fun _ => .int .u8 0) 25)).setRow w3.heap.size (rowB 32 r) = w4 at *; rw [← eg]; clear eg))
          clear hw64
          go_loopw [10] (fun i w5 => ∃ j : Nat, j ≤ k ∧ i = .int .i64 j ∧ w5.heap[g]? = some (.cells (rowB 32 r) 25 (0, 0)) ∧ Below wr.heap.size wr w5) (fun i _ => k - (intOf i).toNat)
          case atStart => exact ⟨0, Nat.zero_le _, rfl, HG4.out, HB4.out⟩
          case round =>
            clear HG4 HB4
            obtain ⟨j, hj, rfl, hg, hb5⟩ := hrel
            have HG5 := Lib.hid hg
            have HB5 := Lib.hid hb5
            have HV5 := Lib.hid (HV.out.below hb5)
            clear hg hb5
            have hj0 : (0 : Int) ≤ (j : Int) := by omega
            by_cases hjk : j < k
            · have hjk1 : (j : Int) < (k : Int) := by omega
              have hjl : j < (listsE y k).length := by rw [listsE_length]; exact hjk
              obtain ⟨b, off, a1, c1, rfl, hbb, hcell, hrow⟩ := HV5.out.at hjl
              obtain ⟨m, hmm⟩ : ∃ m, m = (listsE y k)[j]'hjl := ⟨_, rfl⟩
              obtain ⟨ps, hps⟩ : ∃ ps, ps = pathS (listsE y k) j := ⟨_, rfl⟩
              have HPI := Lib.hid (fun w hv => pathc_in (listsE y k) (some ⟨b, off, none⟩) k c j w (listsE_length _ _).symm hv HC.out (by omega) (by rw [listsE_flat]; omega) hjk)
              rw [← hps] at HPI
              have hck : checkS r (k : Int) (j : Int) m ps = true := by
                have := checkE_path hjl (by rw [listsE_length]; omega)
                rw [listsE_length, ← HR.out, ← hmm, ← hps] at this
                exact this
              have hml : m.length ≤ 2 := by rw [hmm, listsE_get]; simp
              have hle := HLE.out j hjk
              have hfu := fun h => HFU.out h j hjk
              rw [← hps] at hle hfu
              rw [← hmm] at hcell hrow
              have HCK := Lib.hid hck
              have HROW := Lib.hid hrow
              have HML := Lib.hid hml
              clear hck hrow hml hmm hps hjl
              go_wp2_with (go_at_call 14; refine (HPI.out _ HV5.out).mono ?_; rintro e w6 ⟨v6, rfl, hown6, hb6⟩; obtain ⟨a6, c6, e6, hc6⟩ := hown6.capE; subst e6)
              obtain ⟨P, hP⟩ : ∃ P, P = ps.length := ⟨_, rfl⟩
              rw [← hP] at hown6 hc6 hle hfu ⊢
              have HO6 := Lib.hid hown6
              have HPP := Lib.hid hP
              have HC6 := Lib.hid hc6
              have HB6 := Lib.hid (below_keep HB5.out hb6)
              have HG6 := Lib.hid ((hb6.block _ (Array.getElem?_eq_some_iff.1 HG5.out).1).trans HG5.out)
              have HROW6 := Lib.hid (HROW.out.below hb6)
              have hrg := range_num HG6.out
              have hu := Try.underlying25
              have hif : (Try.prog.info? 25).map (·.size) = some (rowB 32 r).toList.length := by rw [size32]; simp [rowB_size]
              have hce : ∀ w', Below w6.heap.size w6 w' → w'.cell? ⟨b, off + j, none⟩ = some (.slice a1 m.length c1) := fun w' h => ((hb6.trans (h.mono hb6.size)).cell (p := ⟨b, off + j, none⟩) hbb).trans hcell
              clear hown6 hP hc6 hb6 hcell hbb
              have hPM : ¬ ((M : Int) < (P : Int)) := by omega
              have hPM2 : (P : Int) ≤ (M : Int) := by omega
              by_cases hland : bits BinOp.and IntKind.i64 (k : Int) (IntKind.i64.wrap ((k : Int) - 1)) = 0
              · have hPe : (P : Int) = (M : Int) := by have := hfu hland; omega
                clear hle hfu
                refine wp_region_plan (S := fun w' => Below w6.heap.size w6 w') [0, 1, 2, 3, 4, 5, 6, 7, 8, 9, 10, 11, 12, 13, 14, 15, 16, 17, 18, 19, 20, 21, 22, 23, 24, 25, 26, 27, 28, 29, 30, 31, 32] [true, true, true, true, true, true, true, true, true, true, true, true, true, true, true, true, true, true, true, true, true, true, true, true, true, true, true, true, true, true, false, true, true] (by kernel_rfl) (by kernel_rfl) (Below.refl _ _).drew (fun hHeld => ?_)
                simp only [List.filterMap_cons, List.filterMap_nil, List.getElem?_toArray, List.getElem?_cons_zero, List.getElem?_cons_succ]
                refine seqH_take (v := ?_) (Or.inl ⟨by rfl, ?_⟩) ?_
                rotate_left
                · (intro w hSw; go_simp; first | done | with_reducible rfl)
                try simp only [Act.put, List.setIfInBounds_toArray, List.set_cons_zero, List.set_cons_succ]
                refine seqH_take (v := ?_) (Or.inl ⟨by rfl, ?_⟩) ?_
                rotate_left
                · (intro w hSw; go_simp; first | done | with_reducible rfl)
                try simp only [Act.put, List.setIfInBounds_toArray, List.set_cons_zero, List.set_cons_succ]
                refine seqH_take (v := ?_) (Or.inl ⟨by rfl, ?_⟩) ?_
                rotate_left
                · (intro w hSw; go_simp; first | done | with_reducible rfl)
                try simp only [Act.put, List.setIfInBounds_toArray, List.set_cons_zero, List.set_cons_succ]
                refine seqH_take (v := ?_) (Or.inl ⟨by rfl, ?_⟩) ?_
                rotate_left
                · (intro w hSw; go_simp; first | done | with_reducible rfl)
                try simp only [Act.put, List.setIfInBounds_toArray, List.set_cons_zero, List.set_cons_succ]
                refine seqH_take (v := ?_) (Or.inl ⟨by rfl, ?_⟩) ?_
                rotate_left
                · (intro w hSw; go_simp; first | done | with_reducible rfl)
                try simp only [Act.put, List.setIfInBounds_toArray, List.set_cons_zero, List.set_cons_succ]
                refine seqH_take (v := ?_) (Or.inl ⟨by rfl, ?_⟩) ?_
                rotate_left
                · (intro w hSw; go_simp; first | done | with_reducible rfl)
                try simp only [Act.put, List.setIfInBounds_toArray, List.set_cons_zero, List.set_cons_succ]
                refine seqH_take (v := ?_) (Or.inl ⟨by rfl, ?_⟩) ?_
                rotate_left
                · (intro w hSw; go_simp; first | done | with_reducible rfl)
                try simp only [Act.put, List.setIfInBounds_toArray, List.set_cons_zero, List.set_cons_succ]
                refine seqH_take (v := ?_) (Or.inl ⟨by rfl, ?_⟩) ?_
                rotate_left
                · (intro w hSw; go_simp; first | done | with_reducible rfl)
                try simp only [Act.put, List.setIfInBounds_toArray, List.set_cons_zero, List.set_cons_succ]
                refine seqH_take (v := ?_) (Or.inl ⟨by rfl, ?_⟩) ?_
                rotate_left
                · (intro w hSw; go_simp; first | done | with_reducible rfl)
                try simp only [Act.put, List.setIfInBounds_toArray, List.set_cons_zero, List.set_cons_succ]
                refine seqH_take (v := ?_) (Or.inl ⟨by rfl, ?_⟩) ?_
                rotate_left
                · (intro w hSw; go_simp; first | done | with_reducible rfl)
                try simp only [Act.put, List.setIfInBounds_toArray, List.set_cons_zero, List.set_cons_succ]
                refine seqH_take (v := ?_) (Or.inl ⟨by rfl, ?_⟩) ?_
                rotate_left
                · (intro w hSw; go_simp; first | done | with_reducible rfl)
                try simp only [Act.put, List.setIfInBounds_toArray, List.set_cons_zero, List.set_cons_succ]
                refine seqH_take (v := ?_) (Or.inl ⟨by rfl, ?_⟩) ?_
                rotate_left
                · (intro w hSw; go_simp; first | done | with_reducible rfl)
                try simp only [Act.put, List.setIfInBounds_toArray, List.set_cons_zero, List.set_cons_succ]
                refine seqH_take (v := ?_) (Or.inl ⟨by rfl, ?_⟩) ?_
                rotate_left
                · (intro w hSw; go_simp; first | done | with_reducible rfl)
                try simp only [Act.put, List.setIfInBounds_toArray, List.set_cons_zero, List.set_cons_succ]
                refine seqH_take (v := ?_) (Or.inl ⟨by rfl, ?_⟩) ?_
                rotate_left
                · (intro w hSw; go_simp; first | done | with_reducible rfl)
                try simp only [Act.put, List.setIfInBounds_toArray, List.set_cons_zero, List.set_cons_succ]
                refine seqH_take (v := ?_) (Or.inl ⟨by rfl, ?_⟩) ?_
                rotate_left
                · (intro w hSw; go_simp; first | done | with_reducible rfl)
                try simp only [Act.put, List.setIfInBounds_toArray, List.set_cons_zero, List.set_cons_succ]
                refine seqH_take (v := ?_) (Or.inl ⟨by rfl, ?_⟩) ?_
                rotate_left
                · (intro w hSw; go_simp; first | done | with_reducible rfl)
                try simp only [Act.put, List.setIfInBounds_toArray, List.set_cons_zero, List.set_cons_succ]
                refine seqH_take (v := ?_) (Or.inl ⟨by rfl, ?_⟩) ?_
                rotate_left
                · (intro w hSw; go_simp; first | done | with_reducible rfl)
                try simp only [Act.put, List.setIfInBounds_toArray, List.set_cons_zero, List.set_cons_succ]
                refine seqH_take (v := ?_) (Or.inl ⟨by rfl, ?_⟩) ?_
                rotate_left
                · (intro w hSw; go_simp; first | done | with_reducible rfl)
                try simp only [Act.put, List.setIfInBounds_toArray, List.set_cons_zero, List.set_cons_succ]
                refine seqH_take (v := ?_) (Or.inl ⟨by rfl, ?_⟩) ?_
                rotate_left
                · (intro w hSw; go_simp; first | done | with_reducible rfl)
                try simp only [Act.put, List.setIfInBounds_toArray, List.set_cons_zero, List.set_cons_succ]
                refine seqH_take (v := ?_) (Or.inl ⟨by rfl, ?_⟩) ?_
                rotate_left
                · (intro w hSw; go_simp; first | done | with_reducible rfl)
                try simp only [Act.put, List.setIfInBounds_toArray, List.set_cons_zero, List.set_cons_succ]
                refine seqH_take (v := ?_) (Or.inl ⟨by rfl, ?_⟩) ?_
                rotate_left
                · (intro w hSw; go_simp; first | done | with_reducible rfl)
                try simp only [Act.put, List.setIfInBounds_toArray, List.set_cons_zero, List.set_cons_succ]
                refine seqH_take (v := ?_) (Or.inl ⟨by rfl, ?_⟩) ?_
                rotate_left
                · (intro w hSw; go_simp; first | done | with_reducible rfl)
                try simp only [Act.put, List.setIfInBounds_toArray, List.set_cons_zero, List.set_cons_succ]
                refine seqH_take (yieldsIf_load_mid (by rfl) _ _ rfl _ _ rfl _ _ (fun w hw => hrg w hw) hu rfl hif) ?_
                try simp only [Act.put, List.setIfInBounds_toArray, List.set_cons_zero, List.set_cons_succ, rowB_back]
                refine seqH_take (v := ?_) (Or.inl ⟨by rfl, ?_⟩) ?_
                rotate_left
                · (intro w hSw; go_simp; first | done | with_reducible rfl)
                try simp only [Act.put, List.setIfInBounds_toArray, List.set_cons_zero, List.set_cons_succ]
                refine seqH_take (v := ?_) (Or.inl ⟨by rfl, ?_⟩) ?_
                rotate_left
                · (intro w hSw; go_simp; first | done | with_reducible rfl)
                try simp only [Act.put, List.setIfInBounds_toArray, List.set_cons_zero, List.set_cons_succ]
                refine seqH_take (v := ?_) (Or.inl ⟨by rfl, ?_⟩) ?_
                rotate_left
                · (intro w hSw; go_simp; first | done | with_reducible rfl)
                try simp only [Act.put, List.setIfInBounds_toArray, List.set_cons_zero, List.set_cons_succ]
                refine seqH_take (v := ?_) (Or.inl ⟨by rfl, ?_⟩) ?_
                rotate_left
                · (intro w hSw; go_simp; first | done | with_reducible rfl)
                try simp only [Act.put, List.setIfInBounds_toArray, List.set_cons_zero, List.set_cons_succ]
                refine seqH_take (v := ?_) (Or.inl ⟨by rfl, ?_⟩) ?_
                rotate_left
                · (intro w hSw; go_simp; first | done | with_reducible rfl)
                try simp only [Act.put, List.setIfInBounds_toArray, List.set_cons_zero, List.set_cons_succ]
                refine seqH_take (v := ?_) (Or.inl ⟨by rfl, ?_⟩) ?_
                rotate_left
                · (intro w hSw; go_simp; first | done | with_reducible rfl)
                try simp only [Act.put, List.setIfInBounds_toArray, List.set_cons_zero, List.set_cons_succ]
                refine seqH_take (v := ?_) (Or.inl ⟨by rfl, ?_⟩) ?_
                rotate_left
                · (intro w hSw; go_simp; first | done | with_reducible rfl)
                try simp only [Act.put, List.setIfInBounds_toArray, List.set_cons_zero, List.set_cons_succ]
                refine seqH_go (fun K hK => ?_)
                rw [if_pos (by rfl)]
                go_simp
                refine (check_any r k j a1 a6 c1 P c6 m ps _ (HROW6.out.below hHeld) (by have := HML.out; omega) ((show NRow w6 (.slice a6 P c6) ps from HO6.out.nrow).below hHeld) HPP.out HC6.out).mono ?_; rintro e w9 ⟨rfl, hbc⟩; rw [HCK.out]
                try dsimp only
                refine hK.out _ _ (below_keep hHeld hbc) (fun hHeld2 => ?_)
                clear hK K hHeld
                have hHeld := hHeld2
                clear hHeld2
                try simp only [Act.put, List.setIfInBounds_toArray, List.set_cons_zero, List.set_cons_succ]
                refine seqH_take (v := ?_) (Or.inl ⟨by rfl, ?_⟩) ?_
                rotate_left
                · (intro w hSw; go_simp; first | done | with_reducible rfl)
                try simp only [Act.put, List.setIfInBounds_toArray, List.set_cons_zero, List.set_cons_succ]
                refine seqH_take (v := ?_) (Or.inl ⟨by rfl, ?_⟩) ?_
                rotate_left
                · (intro w hSw; go_simp; first | done | with_reducible rfl)
                try simp only [Act.put, List.setIfInBounds_toArray, List.set_cons_zero, List.set_cons_succ]
                refine seqH_nil (NoPanic.normal ?_)
                clear hrg hce
                go_wp2
                go_roundw
                case rel => exact ⟨j + 1, by omega, by go_num, (hHeld.block _ (Array.getElem?_eq_some_iff.1 HG6.out).1).trans HG6.out, below_keep HB6.out hHeld⟩
                case measure => simp [intOf]; omega
              · have hland2 : (bits BinOp.and IntKind.i64 (k : Int) (IntKind.i64.wrap ((k : Int) - 1)) == 0) = false := beq_eq_false_iff_ne.2 hland
                clear hle hfu
                refine wp_region_plan (S := fun w' => Below w6.heap.size w6 w') [0, 1, 2, 3, 4, 5, 6, 7, 8, 9, 10, 11, 12, 13, 14, 15, 16, 17, 18, 19, 20, 21, 22, 23, 24, 25, 26, 27, 28, 29, 30, 31, 32] [true, true, true, true, true, true, true, true, true, true, true, true, true, true, true, true, true, true, true, true, true, true, true, true, true, true, true, true, true, true, false, true, true] (by kernel_rfl) (by kernel_rfl) (Below.refl _ _).drew (fun hHeld => ?_)
                simp only [List.filterMap_cons, List.filterMap_nil, List.getElem?_toArray, List.getElem?_cons_zero, List.getElem?_cons_succ]
                refine seqH_take (v := ?_) (Or.inl ⟨by rfl, ?_⟩) ?_
                rotate_left
                · (intro w hSw; go_simp; first | done | with_reducible rfl)
                try simp only [Act.put, List.setIfInBounds_toArray, List.set_cons_zero, List.set_cons_succ]
                refine seqH_take (v := ?_) (Or.inl ⟨by rfl, ?_⟩) ?_
                rotate_left
                · (intro w hSw; go_simp; first | done | with_reducible rfl)
                try simp only [Act.put, List.setIfInBounds_toArray, List.set_cons_zero, List.set_cons_succ]
                refine seqH_take (v := ?_) (Or.inl ⟨by rfl, ?_⟩) ?_
                rotate_left
                · (intro w hSw; go_simp; first | done | with_reducible rfl)
                try simp only [Act.put, List.setIfInBounds_toArray, List.set_cons_zero, List.set_cons_succ]
                refine seqH_take (v := ?_) (Or.inl ⟨by rfl, ?_⟩) ?_
                rotate_left
                · (intro w hSw; go_simp; first | done | with_reducible rfl)
                try simp only [Act.put, List.setIfInBounds_toArray, List.set_cons_zero, List.set_cons_succ]
                refine seqH_take (v := ?_) (Or.inl ⟨by rfl, ?_⟩) ?_
                rotate_left
                · (intro w hSw; go_simp; first | done | with_reducible rfl)
                try simp only [Act.put, List.setIfInBounds_toArray, List.set_cons_zero, List.set_cons_succ]
                refine seqH_take (v := ?_) (Or.inl ⟨by rfl, ?_⟩) ?_
                rotate_left
                · (intro w hSw; go_simp; first | done | with_reducible rfl)
                try simp only [Act.put, List.setIfInBounds_toArray, List.set_cons_zero, List.set_cons_succ]
                refine seqH_take (v := ?_) (Or.inl ⟨by rfl, ?_⟩) ?_
                rotate_left
                · (intro w hSw; go_simp; first | done | with_reducible rfl)
                try simp only [Act.put, List.setIfInBounds_toArray, List.set_cons_zero, List.set_cons_succ]
                refine seqH_take (v := ?_) (Or.inl ⟨by rfl, ?_⟩) ?_
                rotate_left
                · (intro w hSw; go_simp; first | done | with_reducible rfl)
                try simp only [Act.put, List.setIfInBounds_toArray, List.set_cons_zero, List.set_cons_succ]
                refine seqH_take (v := ?_) (Or.inl ⟨by rfl, ?_⟩) ?_
                rotate_left
                · (intro w hSw; go_simp; first | done | with_reducible rfl)
                try simp only [Act.put, List.setIfInBounds_toArray, List.set_cons_zero, List.set_cons_succ]
                refine seqH_take (v := ?_) (Or.inl ⟨by rfl, ?_⟩) ?_
                rotate_left
                · (intro w hSw; go_simp; first | done | with_reducible rfl)
                try simp only [Act.put, List.setIfInBounds_toArray, List.set_cons_zero, List.set_cons_succ]
                refine seqH_take (v := ?_) (Or.inl ⟨by rfl, ?_⟩) ?_
                rotate_left
                · (intro w hSw; go_simp; first | done | with_reducible rfl)
                try simp only [Act.put, List.setIfInBounds_toArray, List.set_cons_zero, List.set_cons_succ]
                refine seqH_take (v := ?_) (Or.inl ⟨by rfl, ?_⟩) ?_
                rotate_left
                · (intro w hSw; go_simp; first | done | with_reducible rfl)
                try simp only [Act.put, List.setIfInBounds_toArray, List.set_cons_zero, List.set_cons_succ]
                refine seqH_take (v := ?_) (Or.inl ⟨by rfl, ?_⟩) ?_
                rotate_left
                · (intro w hSw; go_simp; first | done | with_reducible rfl)
                try simp only [Act.put, List.setIfInBounds_toArray, List.set_cons_zero, List.set_cons_succ]
                refine seqH_take (v := ?_) (Or.inl ⟨by rfl, ?_⟩) ?_
                rotate_left
                · (intro w hSw; go_simp; first | done | with_reducible rfl)
                try simp only [Act.put, List.setIfInBounds_toArray, List.set_cons_zero, List.set_cons_succ]
                refine seqH_take (v := ?_) (Or.inl ⟨by rfl, ?_⟩) ?_
                rotate_left
                · (intro w hSw; go_simp; first | done | with_reducible rfl)
                try simp only [Act.put, List.setIfInBounds_toArray, List.set_cons_zero, List.set_cons_succ]
                refine seqH_take (v := undef) (Or.inr ⟨by rfl, rfl⟩) ?_
                try simp only [Act.put, List.setIfInBounds_toArray, List.set_cons_zero, List.set_cons_succ]
                refine seqH_take (v := undef) (Or.inr ⟨by rfl, rfl⟩) ?_
                try simp only [Act.put, List.setIfInBounds_toArray, List.set_cons_zero, List.set_cons_succ]
                refine seqH_take (v := undef) (Or.inr ⟨by rfl, rfl⟩) ?_
                try simp only [Act.put, List.setIfInBounds_toArray, List.set_cons_zero, List.set_cons_succ]
                refine seqH_take (v := undef) (Or.inr ⟨by rfl, rfl⟩) ?_
                try simp only [Act.put, List.setIfInBounds_toArray, List.set_cons_zero, List.set_cons_succ]
                refine seqH_take (v := ?_) (Or.inl ⟨by rfl, ?_⟩) ?_
                rotate_left
                · (intro w hSw; go_simp; first | done | with_reducible rfl)
                try simp only [Act.put, List.setIfInBounds_toArray, List.set_cons_zero, List.set_cons_succ]
                refine seqH_take (v := ?_) (Or.inl ⟨by rfl, ?_⟩) ?_
                rotate_left
                · (intro w hSw; go_simp; first | done | with_reducible rfl)
                try simp only [Act.put, List.setIfInBounds_toArray, List.set_cons_zero, List.set_cons_succ]
                refine seqH_take (v := ?_) (Or.inl ⟨by rfl, ?_⟩) ?_
                rotate_left
                · (intro w hSw; go_simp; first | done | with_reducible rfl)
                try simp only [Act.put, List.setIfInBounds_toArray, List.set_cons_zero, List.set_cons_succ]
                refine seqH_take (yieldsIf_load_mid (by rfl) _ _ rfl _ _ rfl _ _ (fun w hw => hrg w hw) hu rfl hif) ?_
                try simp only [Act.put, List.setIfInBounds_toArray, List.set_cons_zero, List.set_cons_succ, rowB_back]
                refine seqH_take (v := ?_) (Or.inl ⟨by rfl, ?_⟩) ?_
                rotate_left
                · (intro w hSw; go_simp; first | done | with_reducible rfl)
                try simp only [Act.put, List.setIfInBounds_toArray, List.set_cons_zero, List.set_cons_succ]
                refine seqH_take (v := ?_) (Or.inl ⟨by rfl, ?_⟩) ?_
                rotate_left
                · (intro w hSw; go_simp; first | done | with_reducible rfl)
                try simp only [Act.put, List.setIfInBounds_toArray, List.set_cons_zero, List.set_cons_succ]
                refine seqH_take (v := ?_) (Or.inl ⟨by rfl, ?_⟩) ?_
                rotate_left
                · (intro w hSw; go_simp; first | done | with_reducible rfl)
                try simp only [Act.put, List.setIfInBounds_toArray, List.set_cons_zero, List.set_cons_succ]
                refine seqH_take (v := ?_) (Or.inl ⟨by rfl, ?_⟩) ?_
                rotate_left
                · (intro w hSw; go_simp; first | done | with_reducible rfl)
                try simp only [Act.put, List.setIfInBounds_toArray, List.set_cons_zero, List.set_cons_succ]
                refine seqH_take (v := ?_) (Or.inl ⟨by rfl, ?_⟩) ?_
                rotate_left
                · (intro w hSw; go_simp; first | done | with_reducible rfl)
                try simp only [Act.put, List.setIfInBounds_toArray, List.set_cons_zero, List.set_cons_succ]
                refine seqH_take (v := ?_) (Or.inl ⟨by rfl, ?_⟩) ?_
                rotate_left
                · (intro w hSw; go_simp; first | done | with_reducible rfl)
                try simp only [Act.put, List.setIfInBounds_toArray, List.set_cons_zero, List.set_cons_succ]
                refine seqH_take (v := ?_) (Or.inl ⟨by rfl, ?_⟩) ?_
                rotate_left
                · (intro w hSw; go_simp; first | done | with_reducible rfl)
                try simp only [Act.put, List.setIfInBounds_toArray, List.set_cons_zero, List.set_cons_succ]
                refine seqH_go (fun K hK => ?_)
                rw [if_pos (by rfl)]
                go_simp
                refine (check_any r k j a1 a6 c1 P c6 m ps _ (HROW6.out.below hHeld) (by have := HML.out; omega) ((show NRow w6 (.slice a6 P c6) ps from HO6.out.nrow).below hHeld) HPP.out HC6.out).mono ?_; rintro e w9 ⟨rfl, hbc⟩; rw [HCK.out]
                try dsimp only
                refine hK.out _ _ (below_keep hHeld hbc) (fun hHeld2 => ?_)
                clear hK K hHeld
                have hHeld := hHeld2
                clear hHeld2
                try simp only [Act.put, List.setIfInBounds_toArray, List.set_cons_zero, List.set_cons_succ]
                refine seqH_take (v := ?_) (Or.inl ⟨by rfl, ?_⟩) ?_
                rotate_left
                · (intro w hSw; go_simp; first | done | with_reducible rfl)
                try simp only [Act.put, List.setIfInBounds_toArray, List.set_cons_zero, List.set_cons_succ]
                refine seqH_take (v := ?_) (Or.inl ⟨by rfl, ?_⟩) ?_
                rotate_left
                · (intro w hSw; go_simp; first | done | with_reducible rfl)
                try simp only [Act.put, List.setIfInBounds_toArray, List.set_cons_zero, List.set_cons_succ]
                refine seqH_nil (NoPanic.normal ?_)
                clear hrg hce
                go_wp2
                go_roundw
                case rel => exact ⟨j + 1, by omega, by go_num, (hHeld.block _ (Array.getElem?_eq_some_iff.1 HG6.out).1).trans HG6.out, below_keep HB6.out hHeld⟩
                case measure => simp [intOf]; omega
            · have hjk1 : ¬ (j : Int) < (k : Int) := by omega
              go_wp2_with fail
              go_ret
              exact ⟨rfl, below_keep HB.out HB5.out⟩

theorem merkleEach_walk {w : World} (n : Int) (_hn : (Lit.int .i64 n).wf = true) (y : Int) (hy : (Lit.int .u8 y).wf = true) :
    Calls Try.prog 5 #[.int .i64 n, .int .u8 y] w fun e w' => e = .returned (.bool true) ∧ Below w.heap.size w w' := by
  obtain ⟨x, rfl⟩ := u8_of_wf hy
  by_cases h : n < 1 ∨ 40 < n
  · exact merkleEach_out n _ w h
  · obtain ⟨m, rfl⟩ : ∃ m : Nat, n = (m : Int) := ⟨n.toNat, by omega⟩
    exact merkleEach_in m x w (by omega) (by omega)

end Go.Proofs.Ytnnllficjljjkaa
