/-
  The walk of the law MerkleRoots.
-/
import Derived.Test.YtnnllficjljjkaaDoorRefPath
namespace Go.Proofs.YtnnllficjljjkaaDoor
open Go.RowKit
set_option linter.unusedVariables false
set_option linter.unusedSimpArgs false

theorem OwnN.cap {w : World} {base : Nat} {v : Value} {l : List (Nat → BitVec 8)} (h : OwnN w base v l) : ∃ a c, v = .slice a l.length c ∧ l.length ≤ c := by
  rcases h.2 with ⟨rfl, h0⟩ | ⟨g, cap, cur, rfl, _, _, hn, _, _, _⟩
  · exact ⟨none, 0, by rw [h0], by omega⟩
  · exact ⟨_, cap, rfl, hn⟩
theorem checkS_path {l : List (List (BitVec 8))} {j : Nat} (hj : j < l.length) (hn : l.length ≤ 1048576) : checkS (rootS l) (l.length : Int) (j : Int) l[j] (pathS l j) = true := by
  unfold checkS
  rw [if_neg (by omega), Int.toNat_natCast, Int.toNat_natCast, path_climb hj]
  exact eqB_self _

set_option maxRecDepth 100000 in
set_option maxHeartbeats 4000000 in
theorem merkleRoots_in (A : Option Addr) (N c : Nat) (l : List (List (BitVec 8))) (w : World) (hN : N = l.length) (hv : BRows w (.slice A N c) l) (hc : N ≤ c) (hbig : bigB l = false) (hka : KAt w) :
    Calls Tryd.prog 18 #[.slice A N c] w fun e w' => e = .returned (.bool true) ∧ Below w.heap.size w w' := by
  obtain ⟨hl, hm⟩ := big_false hbig
  obtain ⟨r, hr⟩ : ∃ r, r = rootS l := ⟨_, rfl⟩
  have HRT := Lib.hid (show ∀ w, BRows w (.slice A N c) l → Calls Tryd.prog 43 #[.slice A N c] w fun e w' => e = .returned (.agg (rowB 32 r)) ∧ Below w.heap.size w w' from fun w hv => by
    rw [hr]; exact root_any N l A c w hN hv hc (by omega) (by omega))
  have HRF := Lib.hid (show ∀ w, BRows w (.slice A N c) l → KAt w → Calls Tryd.prog 44 #[.slice A N c] w fun e w' => e = .returned (.agg (rowB 32 r)) ∧ Below w.heap.size w w' from fun w hv hka => by
    rw [hr]; exact refRoot_any N l A c w hN hv hc (by omega) (by omega) hka)
  have HR := Lib.hid hr
  have HV := Lib.hid hv
  have HC := Lib.hid hc
  have HN := Lib.hid hN
  have HM := Lib.hid hm
  have HK := Lib.hid hka
  have HBG := Lib.hid (show ∀ w, BRows w (.slice A N c) l → Calls Tryd.prog 22 #[.slice A N c] w fun e w' => e = .returned (.bool false) ∧ w = w' from fun w hv => by
    have := big_any _ l w hv
    rw [hbig] at this
    exact this)
  have hN30 : (N : Int) ≤ 30 := by omega
  have HZ := Lib.hid (show (Tryd.prog.info? 28).map (·.size) = some (rowB 32 r).size by rw [size32, rowB_size])
  clear hr hv hc hN hm hl hbig hka
  go_enter Tryd.func18, Tryd.ntmps18
  go_wp2_with (first
    | (go_at_call 42; refine (alive15_any _).mono ?_; rintro e w1 ⟨rfl, hb1⟩; have HB1 := Lib.hid hb1; have HV1 := Lib.hid (HV.out.below hb1); clear hb1)
    | (go_at_call 22; refine (HBG.out _ HV1.out).mono ?_; rintro e w2 ⟨rfl, rfl⟩)
    | (go_at_call 43; refine (HRT.out _ HV1.out).mono ?_; rintro e w3 ⟨rfl, hb3⟩; have HB3 := Lib.hid (below_keep HB1.out hb3); clear hb3)
    | (with_reducible refine wpList_alloc_row rfl 28 rfl 32 _ info32 ?_)
    | ((with_reducible show wpList _ _ _ (⟨_, .store 28 _ _, _, _, _, _⟩ :: _) _ _); refine wpList_store_rowTo rfl 28 _ _ rfl rfl w3.heap.size (rowB 32 r) rfl rfl 28 _ (heap_alloc_new _ _) HZ.out (by rw [row_size, rowB_size]) (rowB_oneCell _ _) ?_; obtain ⟨g, eg⟩ : ∃ g, g = w3.heap.size := ⟨_, rfl⟩; have HB4 := Lib.hid (show Below w.heap.size w ((w3.alloc (.cells (row 32 fun _ => .int .u8 0) 28)).setRow w3.heap.size (rowB 32 r)) from below_setRow (below_allocS HB3.out _) HB3.out.size _); have HG4 := Lib.hid (show ((w3.alloc (.cells (row 32 fun _ => .int .u8 0) 28)).setRow w3.heap.size (rowB 32 r)).heap[g]? = some (.cells (rowB 32 r) 28 (0, 0)) from by rw [eg]; exact heap_setRow_at (heap_alloc_new _ _)); generalize (w3.alloc (.cells (row 32 fun _ => .int .u8 0) 28)).setRow w3.heap.size (rowB 32 r) = w4 at *; rw [← eg]; clear eg))
  have hrg := range_num HG4.out
  have hu := Tryd.underlying28
  have hi : (Tryd.prog.info? 28).map (·.size) = some (rowB 32 r).toList.length := by rw [size32]; simp [rowB_size]
  have HVW := Lib.hid (fun w' (h : Below w.heap.size w w') => HV.out.below h)
  simp only [Act.put, List.setIfInBounds_toArray, List.set_cons_zero, List.set_cons_succ]
  refine wp_region_plan (S := fun w' => Below w4.heap.size w4 w') [0, 1, 2, 3] [true, true, false, true] (by kernel_rfl) (by kernel_rfl) (Below.refl _ _).drew (fun hHeld => ?_)
  simp only [List.filterMap_cons, List.filterMap_nil, List.getElem?_toArray, List.getElem?_cons_zero, List.getElem?_cons_succ]
  refine seqH_take (yieldsIf_load_mid (by rfl) _ _ rfl _ _ rfl _ _ (fun w hw => hrg w hw) hu rfl hi) ?_
  try simp only [Act.put, List.setIfInBounds_toArray, List.set_cons_zero, List.set_cons_succ, rowB_back]
  refine seqH_take (v := ?_) (Or.inl ⟨by rfl, ?_⟩) ?_
  rotate_left
  · (intro w hSw; go_simp; first | done | with_reducible rfl)
  try simp only [Act.put, List.setIfInBounds_toArray, List.set_cons_zero, List.set_cons_succ]
  refine seqH_go (fun K hK => ?_)
  rw [if_pos (by rfl)]
  go_simp
  refine (HRF.out _ (HVW.out _ (below_keep HB4.out hHeld)) (HK.out.below (below_keep HB4.out hHeld))).mono ?_; rintro e w5 ⟨rfl, hbc⟩
  try dsimp only
  refine hK.out _ _ (below_keep hHeld hbc) (fun hHeld2 => ?_)
  clear hK K hHeld
  have hHeld := hHeld2
  clear hHeld2
  try simp only [Act.put, List.setIfInBounds_toArray, List.set_cons_zero, List.set_cons_succ]
  refine seqH_take (yieldsIf_sameNumNe (by rfl) _ _ rfl r rfl rfl) ?_
  try simp only [Act.put, List.setIfInBounds_toArray, List.set_cons_zero, List.set_cons_succ]
  refine seqH_nil (NoPanic.normal ?_)
  have HB5 := Lib.hid (below_keep HB4.out hHeld)
  have HG5 := Lib.hid ((hHeld.block _ (Array.getElem?_eq_some_iff.1 HG4.out).1).trans HG4.out)
  clear hrg hHeld
  go_wp2
  go_loopw [6] (fun i wr => ∃ z : Int, i = .int .i64 z ∧ -1 ≤ z ∧ z ≤ (N : Int) + 1 ∧ wr.heap[g]? = some (.cells (rowB 32 r) 28 (0, 0)) ∧ Below w.heap.size w wr) (fun i _ => ((N : Int) + 1 - intOf i).toNat)
  case atStart => exact ⟨-1, rfl, by omega, by omega, HG5.out, HB5.out⟩
  case round =>
    clear HB5 HG5
    obtain ⟨z, rfl, hz0, hz1, hg, hb⟩ := hrel
    have HG := Lib.hid hg
    have HB := Lib.hid hb
    have HVR := Lib.hid (HVW.out _ hb)
    clear hg hb
    by_cases hend : z ≤ (N : Int)
    · by_cases hneg : z < 0
      · obtain rfl : z = -1 := by omega
        go_wp2_with (go_at_call 45; refine (pathc_out A N c (-1) _ (.inl (by decide))).mono ?_; rintro e w6 ⟨rfl, hb6⟩)
        go_roundw
        case rel => exact ⟨0, rfl, by omega, by omega, (hb6.block _ (Array.getElem?_eq_some_iff.1 HG.out).1).trans HG.out, below_keep HB.out hb6⟩
        case measure => first | (simp [intOf]; done) | (simp [intOf]; omega)
      · obtain ⟨j, rfl⟩ : ∃ j : Nat, z = (j : Int) := ⟨z.toNat, by omega⟩
        have hj0 : (0 : Int) ≤ (j : Int) := by omega
        by_cases hjN : j = N
        · subst hjN
          go_wp2_with (go_at_call 45; refine (pathc_out A j c (j : Int) _ (.inr (by omega))).mono ?_; rintro e w6 ⟨rfl, hb6⟩)
          go_roundw
          case rel => exact ⟨(j : Int) + 1, rfl, by omega, by omega, (hb6.block _ (Array.getElem?_eq_some_iff.1 HG.out).1).trans HG.out, below_keep HB.out hb6⟩
          case measure => first | (simp [intOf]; done) | (simp [intOf]; omega)
        · have hj1 : (j : Int) < (N : Int) := by omega
          have hj2 : ¬ ((j : Int) = (N : Int)) := by omega
          have hj3 : ((j : Int) == (N : Int)) = false := beq_eq_false_iff_ne.2 hj2
          have hjl : j < l.length := by rw [← HN.out]; omega
          obtain ⟨b, off, a1, c1, rfl, hbb, hcell, hrow⟩ := HVR.out.at hjl
          have HPI := Lib.hid (fun w hv => pathc_in l (some ⟨b, off, none⟩) N c j w HN.out hv HC.out (by omega) (by have := HM.out; omega) (by omega))
          have HPR := Lib.hid (fun w hv hka => refPath_any N l (some ⟨b, off, none⟩) c j w HN.out hv HC.out (by omega) (by have := HM.out; omega) (by omega) hka)
          have hck := checkS_path hjl (by rw [← HN.out]; omega)
          rw [← HR.out, ← HN.out] at hck
          have hml : (l[j]'hjl).length ≤ 99999900 := Nat.le_trans (flat_get l j hjl) (by have := HM.out; omega)
          obtain ⟨m, hmm⟩ : ∃ m, m = l[j]'hjl := ⟨_, rfl⟩
          obtain ⟨ps, hps⟩ : ∃ ps, ps = pathS l j := ⟨_, rfl⟩
          have hpl : ps.length ≤ 1000000 := by
            rw [hps, pathS_length N l j hjl HN.out.symm]
            have := dirs_le 10 N j (by omega) (by omega)
            omega
          rw [← hps] at HPI HPR
          rw [← hmm, ← hps] at hck
          rw [← hmm] at hcell hrow hml
          have HCK := Lib.hid hck
          have HROW := Lib.hid hrow
          have HML := Lib.hid hml
          have HPL := Lib.hid hpl
          clear hck hrow hml hmm hps hpl hjl
          have hcn : (0 : Int) ≤ (N : Int) := by omega
          go_wp2_with (go_at_call 45; refine (HPI.out _ HVR.out).mono ?_; rintro e w6 ⟨v6, rfl, hown6, hb6⟩; obtain ⟨a6, c6, e6, hc6⟩ := hown6.cap; subst e6)
          have HO6 := Lib.hid hown6
          obtain ⟨P, hP⟩ : ∃ P, P = ps.length := ⟨_, rfl⟩
          rw [← hP] at HO6 hc6 ⊢
          have HPP := Lib.hid hP
          have HB6 := Lib.hid (below_keep HB.out hb6)
          have HG6 := Lib.hid ((hb6.block _ (Array.getElem?_eq_some_iff.1 HG.out).1).trans HG.out)
          have HROW6 := Lib.hid (HROW.out.below hb6)
          have HV6 := Lib.hid (HVR.out.below hb6)
          have hrg := range_num HG6.out
          have hce : ∀ w', Below w6.heap.size w6 w' → w'.cell? ⟨b, off + j, none⟩ = some (.slice a1 m.length c1) := fun w' h => ((hb6.trans (h.mono hb6.size)).cell (p := ⟨b, off + j, none⟩) hbb).trans hcell
          clear hown6 hP hb6 hcell hbb
          refine wp_region_plan (S := fun w' => Below w6.heap.size w6 w') [0, 1, 2, 3, 4, 5, 6, 7, 8, 9, 10, 11, 12, 13, 14, 15, 16, 17, 18, 19, 20, 21, 22] [true, true, true, true, true, true, false, false, true, true, true, true, true, true, true, true, true, true, true, true, false, true, true] (by kernel_rfl) (by kernel_rfl) (Below.refl _ _).drew (fun hHeld => ?_)
          simp only [List.filterMap_cons, List.filterMap_nil, List.getElem?_toArray, List.getElem?_cons_zero, List.getElem?_cons_succ]
          refine seqH_take (v := ?_) (Or.inl ⟨by rfl, ?_⟩) ?_
          rotate_left
          · (intro w hSw; go_simp; first | done | with_reducible rfl)
          try simp only [Act.put, List.setIfInBounds_toArray, List.set_cons_zero, List.set_cons_succ]
          refine seqH_take (v := ?_) (Or.inl ⟨by rfl, ?_⟩) ?_
          rotate_left
          · (intro w hSw; go_simp; first | done | with_reducible rfl)
          try simp only [Act.put, List.setIfInBounds_toArray, List.set_cons_zero, List.set_cons_succ]
          refine seqH_take (v := ?_) (Or.inl ⟨by rfl, ?_⟩) ?_
          rotate_left
          · (intro w hSw; go_simp; first | done | with_reducible rfl)
          try simp only [Act.put, List.setIfInBounds_toArray, List.set_cons_zero, List.set_cons_succ]
          refine seqH_take (v := ?_) (Or.inl ⟨by rfl, ?_⟩) ?_
          rotate_left
          · (intro w hSw; go_simp; first | done | with_reducible rfl)
          try simp only [Act.put, List.setIfInBounds_toArray, List.set_cons_zero, List.set_cons_succ]
          refine seqH_take (v := ?_) (Or.inl ⟨by rfl, ?_⟩) ?_
          rotate_left
          · (intro w hSw; go_simp; first | done | with_reducible rfl)
          try simp only [Act.put, List.setIfInBounds_toArray, List.set_cons_zero, List.set_cons_succ]
          refine seqH_take (v := ?_) (Or.inl ⟨by rfl, ?_⟩) ?_
          rotate_left
          · (intro w hSw; go_simp; first | done | with_reducible rfl)
          try simp only [Act.put, List.setIfInBounds_toArray, List.set_cons_zero, List.set_cons_succ]
          refine seqH_go (fun K hK => ?_)
          rw [if_pos (by rfl)]
          go_simp
          refine (HPR.out _ (HV6.out.below hHeld) (HK.out.below (below_keep HB6.out hHeld))).mono ?_; rintro e w7 ⟨v7, rfl, hown7, hbc⟩; have HO7 := Lib.hid hown7; clear hown7
          try dsimp only
          refine hK.out _ _ (below_keep hHeld hbc) (fun hHeld2 => ?_)
          clear hK K hHeld
          have hHeld := hHeld2
          clear hHeld2
          try simp only [Act.put, List.setIfInBounds_toArray, List.set_cons_zero, List.set_cons_succ]
          refine seqH_go (fun K hK => ?_)
          rw [if_pos (by rfl)]
          go_simp
          refine (sameNums_any _ _ ps _ ((show NRow w6 (.slice a6 P c6) ps from HO6.out.nrow).below hHeld) HO7.out.nrow HPL.out).mono ?_; rintro e w8 ⟨rfl, hbc⟩
          try dsimp only
          refine hK.out _ _ (below_keep hHeld hbc) (fun hHeld2 => ?_)
          clear hK K hHeld
          have hHeld := hHeld2
          clear hHeld2
          try simp only [Act.put, List.setIfInBounds_toArray, List.set_cons_zero, List.set_cons_succ]
          refine seqH_take (v := ?_) (Or.inl ⟨by rfl, ?_⟩) ?_
          rotate_left
          · (intro w hSw; go_simp; first | done | with_reducible rfl)
          try simp only [Act.put, List.setIfInBounds_toArray, List.set_cons_zero, List.set_cons_succ]
          refine seqH_take (v := ?_) (Or.inl ⟨by rfl, ?_⟩) ?_
          rotate_left
          · (intro w hSw; go_simp; first | done | with_reducible rfl)
          try simp only [Act.put, List.setIfInBounds_toArray, List.set_cons_zero, List.set_cons_succ]
          refine seqH_take (v := ?_) (Or.inl ⟨by rfl, ?_⟩) ?_
          rotate_left
          · (intro w hSw; go_simp; first | done | with_reducible rfl)
          try simp only [Act.put, List.setIfInBounds_toArray, List.set_cons_zero, List.set_cons_succ]
          refine seqH_take (yieldsIf_load_mid (by rfl) _ _ rfl _ _ rfl _ _ (fun w hw => hrg w hw) hu rfl hi) ?_
          try simp only [Act.put, List.setIfInBounds_toArray, List.set_cons_zero, List.set_cons_succ, rowB_back]
          refine seqH_take (v := ?_) (Or.inl ⟨by rfl, ?_⟩) ?_
          rotate_left
          · (intro w hSw; go_simp; first | done | with_reducible rfl)
          try simp only [Act.put, List.setIfInBounds_toArray, List.set_cons_zero, List.set_cons_succ]
          refine seqH_take (v := ?_) (Or.inl ⟨by rfl, ?_⟩) ?_
          rotate_left
          · (intro w hSw; go_simp; first | done | with_reducible rfl)
          try simp only [Act.put, List.setIfInBounds_toArray, List.set_cons_zero, List.set_cons_succ]
          refine seqH_take (v := ?_) (Or.inl ⟨by rfl, ?_⟩) ?_
          rotate_left
          · (intro w hSw; go_simp; first | done | with_reducible rfl)
          try simp only [Act.put, List.setIfInBounds_toArray, List.set_cons_zero, List.set_cons_succ]
          refine seqH_take (v := ?_) (Or.inl ⟨by rfl, ?_⟩) ?_
          rotate_left
          · (intro w hSw; go_simp; first | done | with_reducible rfl)
          try simp only [Act.put, List.setIfInBounds_toArray, List.set_cons_zero, List.set_cons_succ]
          refine seqH_take (v := ?_) (Or.inl ⟨by rfl, ?_⟩) ?_
          rotate_left
          · (intro w hSw; go_simp; first | done | with_reducible rfl)
          try simp only [Act.put, List.setIfInBounds_toArray, List.set_cons_zero, List.set_cons_succ]
          refine seqH_take (v := ?_) (Or.inl ⟨by rfl, ?_⟩) ?_
          rotate_left
          · (intro w hSw; go_simp; first | done | with_reducible rfl)
          try simp only [Act.put, List.setIfInBounds_toArray, List.set_cons_zero, List.set_cons_succ]
          refine seqH_take (v := ?_) (Or.inl ⟨by rfl, ?_⟩) ?_
          rotate_left
          · (intro w hSw; go_simp; first | done | with_reducible rfl)
          try simp only [Act.put, List.setIfInBounds_toArray, List.set_cons_zero, List.set_cons_succ]
          refine seqH_take (v := ?_) (Or.inl ⟨by rfl, ?_⟩) ?_
          rotate_left
          · (intro w hSw; go_simp; first | done | with_reducible rfl)
          try simp only [Act.put, List.setIfInBounds_toArray, List.set_cons_zero, List.set_cons_succ]
          refine seqH_go (fun K hK => ?_)
          rw [if_pos (by rfl)]
          go_simp
          refine (check_any r N j a1 a6 c1 P c6 m ps _ (HROW6.out.below hHeld) HML.out ((show NRow w6 (.slice a6 P c6) ps from HO6.out.nrow).below hHeld) HPP.out hc6).mono ?_; rintro e w9 ⟨rfl, hbc⟩; rw [HCK.out]
          try dsimp only
          refine hK.out _ _ (below_keep hHeld hbc) (fun hHeld2 => ?_)
          clear hK K hHeld
          have hHeld := hHeld2
          clear hHeld2
          try simp only [Act.put, List.setIfInBounds_toArray, List.set_cons_zero, List.set_cons_succ]
          refine seqH_take (v := ?_) (Or.inl ⟨by rfl, ?_⟩) ?_
          rotate_left
          · (intro w hSw; go_simp; first | done | with_reducible rfl)
          try simp only [Act.put, List.setIfInBounds_toArray, List.set_cons_zero, List.set_cons_succ]
          refine seqH_take (v := ?_) (Or.inl ⟨by rfl, ?_⟩) ?_
          rotate_left
          · (intro w hSw; go_simp; first | done | with_reducible rfl)
          try simp only [Act.put, List.setIfInBounds_toArray, List.set_cons_zero, List.set_cons_succ]
          refine seqH_nil (NoPanic.normal ?_)
          clear hrg hce
          go_wp2
          go_roundw
          case rel => exact ⟨(j : Int) + 1, rfl, by omega, by omega, (hHeld.block _ (Array.getElem?_eq_some_iff.1 HG6.out).1).trans HG6.out, below_keep HB6.out hHeld⟩
          case measure => first | (simp [intOf]; done) | (simp [intOf]; omega)
    · go_wp2_with fail
      go_ret
      exact ⟨rfl, HB.out⟩

set_option maxHeartbeats 1000000 in
theorem merkleRoots_out (A : Option Addr) (N c : Nat) (l : List (List (BitVec 8))) (w : World) (hv : BRows w (.slice A N c) l) (h : bigB l = true) :
    Calls Tryd.prog 18 #[.slice A N c] w fun e w' => e = .returned (.bool true) ∧ Below w.heap.size w w' := by
  have HV := Lib.hid hv
  have HBG := Lib.hid (show ∀ w, BRows w (.slice A N c) l → Calls Tryd.prog 22 #[.slice A N c] w fun e w' => e = .returned (.bool true) ∧ w = w' from fun w hv => by
    have := big_any _ l w hv
    rw [h] at this
    exact this)
  clear hv h
  go_enter Tryd.func18, Tryd.ntmps18
  go_wp2_with (first
    | (go_at_call 42; refine (alive15_any _).mono ?_; rintro e w1 ⟨rfl, hb1⟩)
    | (go_at_call 22; refine (HBG.out _ (HV.out.below hb1)).mono ?_; rintro e w2 ⟨rfl, rfl⟩))
  go_ret
  exact ⟨rfl, hb1⟩
theorem merkleRoots_walk {w : World} (v : Value) (l : List (List (BitVec 8))) (hv : BRows w v l) (hq : CapOk v) (hk : KAt w) :
    Calls Tryd.prog 18 #[v] w fun e w' => e = .returned (.bool true) ∧ Below w.heap.size w w' := by
  obtain ⟨a, c, rfl⟩ := hv.shape
  cases h : bigB l with
  | true => exact merkleRoots_out a _ c l w hv h
  | false => exact merkleRoots_in a _ c l w rfl hv (hq _ _ _ rfl).1 h hk

end Go.Proofs.YtnnllficjljjkaaDoor
