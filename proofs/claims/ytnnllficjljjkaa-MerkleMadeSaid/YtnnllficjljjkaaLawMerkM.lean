/-
  The walk of the law MerkleMade.
-/
import Derived.Test.YtnnllficjljjkaaMerkA
import Derived.Test.YtnnllficjljjkaaLawMacP
namespace Go.Proofs.Ytnnllficjljjkaa
open Go.RowKit
set_option linter.unusedVariables false
set_option linter.unusedSimpArgs false

set_option maxRecDepth 100000 in
set_option maxHeartbeats 2000000 in
theorem merkleMade_in (A : Option Addr) (N c : Nat) (l : List (List (BitVec 8))) (w : World) (hN : N = l.length) (hv : BRows w (.slice A N c) l) (hc : N ≤ c) (hbig : bigB l = false) (h1 : 1 ≤ N) :
    Calls Try.prog 6 #[.slice A N c] w fun e w' => e = .returned (.bool true) ∧ Below w.heap.size w w' := by
  obtain ⟨hl, hm⟩ := big_false hbig
  obtain ⟨r, hr⟩ : ∃ r, r = rootS l := ⟨_, rfl⟩
  have HRT := Lib.hid (show ∀ w, BRows w (.slice A N c) l → Calls Try.prog 13 #[.slice A N c] w fun e w' => e = .returned (.agg (rowB 32 r)) ∧ Below w.heap.size w w' from fun w hv => by
    rw [hr]; exact root_any N l A c w hN hv hc (by omega) (by omega))
  have HR := Lib.hid hr
  have HV := Lib.hid hv
  have HC := Lib.hid hc
  have HN := Lib.hid hN
  have HM := Lib.hid hm
  have HBG := Lib.hid (show ∀ w, BRows w (.slice A N c) l → Calls Try.prog 16 #[.slice A N c] w fun e w' => e = .returned (.bool false) ∧ w = w' from fun w hv => by
    have := big_any _ l w hv
    rw [hbig] at this
    exact this)
  have hN30 : N ≤ 30 := by omega
  have hz1 : ¬ ((N : Int) < 1) := by omega
  have hz3 : ¬ (N = 0) := by omega
  clear hr hv hc hN hm hl hbig
  by_cases hN1 : N = 1
  · subst hN1
    obtain ⟨m, hmm⟩ : ∃ m, l = [m] := by
      match l, HN.out with
      | [x], _ => exact ⟨x, rfl⟩
    subst hmm
    have HS1 := Lib.hid (show ∀ (v : Value) (w : World), BRows w v [[0], m] → Calls Try.prog 9 #[v] w fun e w' => e = .returned (.agg (rowB 32 r)) ∧ Below w.heap.size w w' from fun v w h => by
      rw [HR.out, rootS_one]; exact sum_two v [0] m w h (by have := HM.out; simp at this ⊢; omega))
    obtain ⟨b, off, a1, c1, rfl, hb, hcell, hrow⟩ := HV.out.at (i := 0) (by simp)
    simp only [List.getElem_cons_zero, Nat.add_zero] at hcell hrow
    have HCE := Lib.hid (show ∀ w', Below w.heap.size w w' → w'.cell? ⟨b, off, none⟩ = some (.slice a1 m.length c1) from fun w' hb' => (hb'.cell (p := ⟨b, off, none⟩) hb).trans hcell)
    have HROW := Lib.hid hrow
    clear hcell hrow hb
    go_enter Try.func6, Try.ntmps6
    go_wp2_with (first
      | (go_at_call 12; refine (alive15_any _).mono ?_; rintro e w1 ⟨rfl, hb1⟩)
      | (go_at_call 16; refine (HBG.out _ (HV.out.below hb1)).mono ?_; rintro e w2 ⟨rfl, rfl⟩))
    have HB1 := Lib.hid hb1
    have hce : ∀ w', Below w1.heap.size w1 w' → w'.cell? ⟨b, off, none⟩ = some (.slice a1 m.length c1) := fun w' hb' => HCE.out w' (below_keep HB1.out hb')
    clear hb1
    refine wp_region_tree (S := fun w' => Below w1.heap.size w1 w') 10 (by kernel_rfl) (by kernel_rfl) (Below.refl _ _).drew (fun hHeld => ?_)
    refine wpAnyH_take (i := 0) (v := ?_) rfl (by kernel_rfl) (by kernel_rfl) (by kernel_rfl) (fun _ _ _ h => h) (Or.inl ⟨by rfl, ?_⟩) hHeld ?_
    rotate_left
    · (intro w hSw; go_simp; first | done | with_reducible rfl)
    try simp only [Act.put, List.getElem_toArray, List.getElem_cons_zero, List.getElem_cons_succ, List.setIfInBounds_toArray, List.set_cons_zero, List.set_cons_succ]
    refine wpAnyH_take (i := 3) (v := ?_) rfl (by kernel_rfl) (by kernel_rfl) (by kernel_rfl) (fun _ _ _ h => h) (Or.inl ⟨by rfl, ?_⟩) hHeld ?_
    rotate_left
    · (intro w hSw; go_simp; first | done | with_reducible rfl)
    try simp only [Act.put, List.getElem_toArray, List.getElem_cons_zero, List.getElem_cons_succ, List.setIfInBounds_toArray, List.set_cons_zero, List.set_cons_succ]
    refine wpAnyH_take (i := 4) (v := ?_) rfl (by kernel_rfl) (by kernel_rfl) (by kernel_rfl) (fun _ _ _ h => h) (Or.inl ⟨by rfl, ?_⟩) hHeld ?_
    rotate_left
    · (intro w hSw; go_simp; first | done | with_reducible rfl)
    try simp only [Act.put, List.getElem_toArray, List.getElem_cons_zero, List.getElem_cons_succ, List.setIfInBounds_toArray, List.set_cons_zero, List.set_cons_succ]
    refine wpAnyH_take (i := 5) (v := ?_) rfl (by kernel_rfl) (by kernel_rfl) (by kernel_rfl) (fun _ _ _ h => h) (Or.inl ⟨by rfl, ?_⟩) hHeld ?_
    rotate_left
    · (intro w hSw; go_simp; first | done | with_reducible rfl)
    try simp only [Act.put, List.getElem_toArray, List.getElem_cons_zero, List.getElem_cons_succ, List.setIfInBounds_toArray, List.set_cons_zero, List.set_cons_succ]
    refine wpAnyH_ready (rs := [1, 2]) (by kernel_rfl) (by simp) ((AllReadyH.cons rfl (fun K hK => ?_) (AllReadyH.cons rfl (fun K hK => ?_) AllReadyH.nil)))
    · rw [if_pos (by rfl)]
      go_simp; refine (HRT.out _ (HV.out.below (below_keep HB1.out hHeld))).mono ?_; rintro e w3 ⟨rfl, hbc⟩; dsimp only
      refine hK.out _ _ (below_keep hHeld hbc) (fun hHeld2 => ?_)
      clear hK K hHeld
      have hHeld := hHeld2
      clear hHeld2
      try simp only [Act.put, List.getElem_toArray, List.getElem_cons_zero, List.getElem_cons_succ, List.setIfInBounds_toArray, List.set_cons_zero, List.set_cons_succ]
      refine wpAnyH_ready (rs := [2]) (by kernel_rfl) (by simp) ((AllReadyH.cons rfl (fun K hK => ?_) AllReadyH.nil))
      rw [if_pos (by rfl)]
      refine wpm_build1 (.const (.int .u8 0)) rfl 0 rfl ?_; intro g2 w4 h2 hg2
      refine hK.out _ _ (hHeld.grown hg2 hHeld.size (fun k hk => by cases hk)) (fun hHeld2 => ?_)
      clear hK K hHeld
      have hHeld := hHeld2
      clear hHeld2
      try simp only [Act.put, List.getElem_toArray, List.getElem_cons_zero, List.getElem_cons_succ, List.setIfInBounds_toArray, List.set_cons_zero, List.set_cons_succ]
      refine wpAnyH_ready (rs := [6]) (by kernel_rfl) (by simp) ((AllReadyH.cons rfl (fun K hK => ?_) AllReadyH.nil))
      rw [if_pos (by rfl)]
      refine wp_build_s2_to (.tmp 27) (.tmp 30) rfl (some ⟨g2, 0, none⟩) 1 1 a1 m.length c1 rfl rfl ?_; intro g6 w6 h6 hg6; have h26 := h2.below ((Below.refl _ _).grown hg6 (Nat.le_refl _) (fun k hk => by cases hk))
      refine hK.out _ _ (hHeld.grown hg6 hHeld.size (fun k hk => by cases hk)) (fun hHeld2 => ?_)
      clear hK K hHeld
      have hHeld := hHeld2
      clear hHeld2
      try simp only [Act.put, List.getElem_toArray, List.getElem_cons_zero, List.getElem_cons_succ, List.setIfInBounds_toArray, List.set_cons_zero, List.set_cons_succ]
      refine wpAnyH_ready (rs := [7]) (by kernel_rfl) (by simp) ((AllReadyH.cons rfl (fun K hK => ?_) AllReadyH.nil))
      rw [if_pos (by rfl)]
      go_simp; refine (HS1.out _ _ (brows_two h6 h26 (HROW.out.below (below_keep HB1.out hHeld)))).mono ?_; rintro e w7 ⟨rfl, hbc⟩; dsimp only
      refine hK.out _ _ (below_keep hHeld hbc) (fun hHeld2 => ?_)
      clear hK K hHeld
      have hHeld := hHeld2
      clear hHeld2
      try simp only [Act.put, List.getElem_toArray, List.getElem_cons_zero, List.getElem_cons_succ, List.setIfInBounds_toArray, List.set_cons_zero, List.set_cons_succ]
      refine wpAnyH_take (i := 8) rfl (by kernel_rfl) (by kernel_rfl) (by kernel_rfl) (fun _ _ _ h => h) (yieldsIf_sameNum (by rfl) _ _ rfl r rfl rfl) hHeld ?_
      try simp only [Act.put, List.getElem_toArray, List.getElem_cons_zero, List.getElem_cons_succ, List.setIfInBounds_toArray, List.set_cons_zero, List.set_cons_succ]
      refine wpAnyH_take (i := 9) (v := ?_) rfl (by kernel_rfl) (by kernel_rfl) (by kernel_rfl) (fun _ _ _ h => h) (Or.inl ⟨by rfl, ?_⟩) hHeld ?_
      rotate_left
      · (intro w hSw; go_simp; first | done | with_reducible rfl)
      try simp only [Act.put, List.getElem_toArray, List.getElem_cons_zero, List.getElem_cons_succ, List.setIfInBounds_toArray, List.set_cons_zero, List.set_cons_succ]
      refine wpAnyH_done (by kernel_rfl) (NoPanic.normal ?_) _
      (clear hce; go_wp2; go_ret; exact ⟨rfl, below_keep HB1.out hHeld⟩)
    · rw [if_pos (by rfl)]
      refine wpm_build1 (.const (.int .u8 0)) rfl 0 rfl ?_; intro g2 w4 h2 hg2
      refine hK.out _ _ (hHeld.grown hg2 hHeld.size (fun k hk => by cases hk)) (fun hHeld2 => ?_)
      clear hK K hHeld
      have hHeld := hHeld2
      clear hHeld2
      try simp only [Act.put, List.getElem_toArray, List.getElem_cons_zero, List.getElem_cons_succ, List.setIfInBounds_toArray, List.set_cons_zero, List.set_cons_succ]
      refine wpAnyH_ready (rs := [1, 6]) (by kernel_rfl) (by simp) ((AllReadyH.cons rfl (fun K hK => ?_) (AllReadyH.cons rfl (fun K hK => ?_) AllReadyH.nil)))
      · rw [if_pos (by rfl)]
        go_simp; refine (HRT.out _ (HV.out.below (below_keep HB1.out hHeld))).mono ?_; rintro e w3 ⟨rfl, hbc⟩; dsimp only
        replace h2 := h2.below hbc
        refine hK.out _ _ (below_keep hHeld hbc) (fun hHeld2 => ?_)
        clear hK K hHeld
        have hHeld := hHeld2
        clear hHeld2
        try simp only [Act.put, List.getElem_toArray, List.getElem_cons_zero, List.getElem_cons_succ, List.setIfInBounds_toArray, List.set_cons_zero, List.set_cons_succ]
        refine wpAnyH_ready (rs := [6]) (by kernel_rfl) (by simp) ((AllReadyH.cons rfl (fun K hK => ?_) AllReadyH.nil))
        rw [if_pos (by rfl)]
        refine wp_build_s2_to (.tmp 27) (.tmp 30) rfl (some ⟨g2, 0, none⟩) 1 1 a1 m.length c1 rfl rfl ?_; intro g6 w6 h6 hg6; have h26 := h2.below ((Below.refl _ _).grown hg6 (Nat.le_refl _) (fun k hk => by cases hk))
        refine hK.out _ _ (hHeld.grown hg6 hHeld.size (fun k hk => by cases hk)) (fun hHeld2 => ?_)
        clear hK K hHeld
        have hHeld := hHeld2
        clear hHeld2
        try simp only [Act.put, List.getElem_toArray, List.getElem_cons_zero, List.getElem_cons_succ, List.setIfInBounds_toArray, List.set_cons_zero, List.set_cons_succ]
        refine wpAnyH_ready (rs := [7]) (by kernel_rfl) (by simp) ((AllReadyH.cons rfl (fun K hK => ?_) AllReadyH.nil))
        rw [if_pos (by rfl)]
        go_simp; refine (HS1.out _ _ (brows_two h6 h26 (HROW.out.below (below_keep HB1.out hHeld)))).mono ?_; rintro e w7 ⟨rfl, hbc⟩; dsimp only
        refine hK.out _ _ (below_keep hHeld hbc) (fun hHeld2 => ?_)
        clear hK K hHeld
        have hHeld := hHeld2
        clear hHeld2
        try simp only [Act.put, List.getElem_toArray, List.getElem_cons_zero, List.getElem_cons_succ, List.setIfInBounds_toArray, List.set_cons_zero, List.set_cons_succ]
        refine wpAnyH_take (i := 8) rfl (by kernel_rfl) (by kernel_rfl) (by kernel_rfl) (fun _ _ _ h => h) (yieldsIf_sameNum (by rfl) _ _ rfl r rfl rfl) hHeld ?_
        try simp only [Act.put, List.getElem_toArray, List.getElem_cons_zero, List.getElem_cons_succ, List.setIfInBounds_toArray, List.set_cons_zero, List.set_cons_succ]
        refine wpAnyH_take (i := 9) (v := ?_) rfl (by kernel_rfl) (by kernel_rfl) (by kernel_rfl) (fun _ _ _ h => h) (Or.inl ⟨by rfl, ?_⟩) hHeld ?_
        rotate_left
        · (intro w hSw; go_simp; first | done | with_reducible rfl)
        try simp only [Act.put, List.getElem_toArray, List.getElem_cons_zero, List.getElem_cons_succ, List.setIfInBounds_toArray, List.set_cons_zero, List.set_cons_succ]
        refine wpAnyH_done (by kernel_rfl) (NoPanic.normal ?_) _
        (clear hce; go_wp2; go_ret; exact ⟨rfl, below_keep HB1.out hHeld⟩)
      · rw [if_pos (by rfl)]
        refine wp_build_s2_to (.tmp 27) (.tmp 30) rfl (some ⟨g2, 0, none⟩) 1 1 a1 m.length c1 rfl rfl ?_; intro g6 w6 h6 hg6; have h26 := h2.below ((Below.refl _ _).grown hg6 (Nat.le_refl _) (fun k hk => by cases hk))
        refine hK.out _ _ (hHeld.grown hg6 hHeld.size (fun k hk => by cases hk)) (fun hHeld2 => ?_)
        clear hK K hHeld
        have hHeld := hHeld2
        clear hHeld2
        try simp only [Act.put, List.getElem_toArray, List.getElem_cons_zero, List.getElem_cons_succ, List.setIfInBounds_toArray, List.set_cons_zero, List.set_cons_succ]
        refine wpAnyH_ready (rs := [1]) (by kernel_rfl) (by simp) ((AllReadyH.cons rfl (fun K hK => ?_) AllReadyH.nil))
        rw [if_pos (by rfl)]
        go_simp; refine (HRT.out _ (HV.out.below (below_keep HB1.out hHeld))).mono ?_; rintro e w3 ⟨rfl, hbc⟩; dsimp only
        replace h26 := h26.below hbc; replace h6 := (hbc.block _ (Array.getElem?_eq_some_iff.1 h6).1).trans h6
        refine hK.out _ _ (below_keep hHeld hbc) (fun hHeld2 => ?_)
        clear hK K hHeld
        have hHeld := hHeld2
        clear hHeld2
        try simp only [Act.put, List.getElem_toArray, List.getElem_cons_zero, List.getElem_cons_succ, List.setIfInBounds_toArray, List.set_cons_zero, List.set_cons_succ]
        refine wpAnyH_ready (rs := [7]) (by kernel_rfl) (by simp) ((AllReadyH.cons rfl (fun K hK => ?_) AllReadyH.nil))
        rw [if_pos (by rfl)]
        go_simp; refine (HS1.out _ _ (brows_two h6 h26 (HROW.out.below (below_keep HB1.out hHeld)))).mono ?_; rintro e w7 ⟨rfl, hbc⟩; dsimp only
        refine hK.out _ _ (below_keep hHeld hbc) (fun hHeld2 => ?_)
        clear hK K hHeld
        have hHeld := hHeld2
        clear hHeld2
        try simp only [Act.put, List.getElem_toArray, List.getElem_cons_zero, List.getElem_cons_succ, List.setIfInBounds_toArray, List.set_cons_zero, List.set_cons_succ]
        refine wpAnyH_take (i := 8) rfl (by kernel_rfl) (by kernel_rfl) (by kernel_rfl) (fun _ _ _ h => h) (yieldsIf_sameNum (by rfl) _ _ rfl r rfl rfl) hHeld ?_
        try simp only [Act.put, List.getElem_toArray, List.getElem_cons_zero, List.getElem_cons_succ, List.setIfInBounds_toArray, List.set_cons_zero, List.set_cons_succ]
        refine wpAnyH_take (i := 9) (v := ?_) rfl (by kernel_rfl) (by kernel_rfl) (by kernel_rfl) (fun _ _ _ h => h) (Or.inl ⟨by rfl, ?_⟩) hHeld ?_
        rotate_left
        · (intro w hSw; go_simp; first | done | with_reducible rfl)
        try simp only [Act.put, List.getElem_toArray, List.getElem_cons_zero, List.getElem_cons_succ, List.setIfInBounds_toArray, List.set_cons_zero, List.set_cons_succ]
        refine wpAnyH_done (by kernel_rfl) (NoPanic.normal ?_) _
        (clear hce; go_wp2; go_ret; exact ⟨rfl, below_keep HB1.out hHeld⟩)
  · have h2 : 2 ≤ N := by omega
    have hN2 : ¬ ((N : Int) = 1) := by omega
    have hk1 := cutN_lt h2
    have hk0 := cutN_pos N
    have hroot : r = nodeS (rootS (l.take (cutN N))) (rootS (l.drop (cutN N))) := by rw [HR.out, HN.out]; exact rootS_two (by rw [← HN.out]; exact h2)
    obtain ⟨k, hk⟩ : ∃ k, k = cutN N := ⟨_, rfl⟩
    rw [← hk] at hk1 hk0 hroot
    obtain ⟨f1, hf1⟩ : ∃ f, f = rootS (l.take k) := ⟨_, rfl⟩
    obtain ⟨f2, hf2⟩ : ∃ f, f = rootS (l.drop k) := ⟨_, rfl⟩
    rw [← hf1, ← hf2] at hroot
    have hft := flat_take l k
    have HX1 := Lib.hid (show ∀ w, BRows w (.slice A N c) l → Calls Try.prog 13 #[.slice A k c] w fun e w' => e = .returned (.agg (rowB 32 f1)) ∧ Below w.heap.size w w' from fun w hv => by
      rw [hf1]; exact root_any k (l.take k) A c w (by rw [List.length_take, ← HN.out]; omega) (hv.hi (by rw [← HN.out]; omega) (by rw [← HN.out]; exact HC.out)) (by have := HC.out; omega) (by omega) (by have := HM.out; omega))
    have HX2 := Lib.hid (show ∀ w, BRows w (.slice A N c) l → Calls Try.prog 13 #[.slice (cutA A c k) (N - k) (c - k)] w fun e w' => e = .returned (.agg (rowB 32 f2)) ∧ Below w.heap.size w w' from fun w hv => by
      rw [hf2]; exact root_any (N - k) (l.drop k) (cutA A c k) (c - k) w (by rw [List.length_drop, ← HN.out]) (hv.lo (by rw [← HN.out]; omega) (by rw [← HN.out]; exact HC.out)) (by have := HC.out; omega) (by omega) (by have := HM.out; omega))
    have HS3 := Lib.hid (show ∀ (v : Value) (w : World), BRows w v [[1], (List.range 32).map f1, (List.range 32).map f2] → Calls Try.prog 9 #[v] w fun e w' => e = .returned (.agg (rowB 32 r)) ∧ Below w.heap.size w w' from fun v w hv => by
      have := sum_any v _ w hv (by simp) (by simp)
      rw [hroot]
      have e : ([[1], (List.range 32).map f1, (List.range 32).map f2] : List (List (BitVec 8))).flatten = 1 :: (num32 f1 ++ num32 f2) := by simp [num32]
      rw [e] at this
      exact this)
    have HS1 := Lib.hid (slice_hiS (A := A) (n := N) (c := c) (k := k) (by have := HC.out; omega))
    have HS2 := Lib.hid (slice_loS (A := A) (n := N) (c := c) (i := k) (by omega))
    have HK := Lib.hid hk
    have HZ1 := Lib.hid (show (Try.prog.info? 25).map (·.size) = some (rowB 32 f1).size by rw [size32, rowB_size])
    have HZ2 := Lib.hid (show (Try.prog.info? 25).map (·.size) = some (rowB 32 f2).size by rw [size32, rowB_size])
    clear hk hf1 hf2 hroot hft hk1 hk0
    go_enter Try.func6, Try.ntmps6
    go_wp2_with (first
      | (go_at_call 12; refine (alive15_any _).mono ?_; rintro e w1 ⟨rfl, hb1⟩; have HB1 := Lib.hid hb1; have HV1 := Lib.hid (HV.out.below hb1); clear hb1)
      | (go_at_call 16; refine (HBG.out _ HV1.out).mono ?_; rintro e w2 ⟨rfl, rfl⟩))
    go_loopw [5] (fun i wr => ∃ j q : Nat, q = 2 ^ j ∧ q < N ∧ i = .int .i64 q ∧ wr = w1) (fun i _ => N - (intOf i).toNat)
    case atStart => exact ⟨0, 1, rfl, by omega, rfl, rfl⟩
    case round =>
      obtain ⟨j, q, hj, hq, rfl, rfl⟩ := hrel
      have hpos : 0 < q := by rw [hj]; exact Nat.pow_pos (by decide)
      have HJ := Lib.hid hj
      clear hj
      have hq0 : (0 : Int) < (q : Int) := by omega
      have hq1 : (q : Int) < (N : Int) := by omega
      have hn30 : (N : Int) ≤ 30 := by omega
      by_cases hlt : 2 * q < N
      · have hlt1 : 2 * (q : Int) < (N : Int) := by omega
        go_wp2_with fail
        go_roundw
        case rel => exact ⟨j + 1, 2 * q, by rw [HJ.out, Nat.pow_succ]; omega, by omega, by first | (congr 1; done) | (congr 1; omega), trivial⟩
        case measure => simp [intOf]; omega
      · have hlt1 : ¬ 2 * (q : Int) < (N : Int) := by omega
        obtain rfl : k = q := by rw [HK.out, HJ.out]; exact cutN_of (by rw [← HJ.out]; exact hq) (by rw [Nat.pow_succ, ← HJ.out]; omega)
        have hs1 := HS1.out
        have hs2 := HS2.out
        go_wp2_with (first
          | (go_at_call 13; first
            | ((with_reducible refine (HX1.out wr HV1.out).mono ?_); rintro e w3 ⟨rfl, hb3⟩; have HB3 := Lib.hid hb3; clear hb3)
            | ((with_reducible refine (HX2.out w4 (HV1.out.below HB4.out)).mono ?_); rintro e w5 ⟨rfl, hb5⟩; have HB5 := Lib.hid (below_keep HB4.out hb5); have HG5 := Lib.hid ((hb5.block _ (Array.getElem?_eq_some_iff.1 HG4.out).1).trans HG4.out); clear hb5))
          | (with_reducible refine wpList_alloc_row rfl 25 rfl 32 _ info32 ?_)
          | ((with_reducible show wpList _ _ _ (⟨_, .store 25 (.tmp 6) _, _, _, _, _⟩ :: _) _ _); refine wpList_store_rowTo rfl 25 (.tmp 6) _ rfl rfl w3.heap.size (rowB 32 f1) rfl rfl 25 _ (heap_alloc_new _ _) HZ1.out (by rw [row_size, rowB_size]) (rowB_oneCell _ _) ?_; obtain ⟨ga, ega⟩ : ∃ g, g = w3.heap.size := ⟨_, rfl⟩; have HB4 := Lib.hid (show Below wr.heap.size wr ((w3.alloc (.cells (row 32 fun _ => .int .u8 0) 25)).setRow w3.heap.size (rowB 32 f1)) from below_setRow (below_allocS HB3.out _) HB3.out.size _); have HG4 := Lib.hid (show ((w3.alloc (.cells (row 32 fun _ => .int .u8 0) 25)).setRow w3.heap.size (rowB 32 f1)).heap[ga]? = some (.cells (rowB 32 f1) 25 (0, 0)) from by rw [ega]; exact heap_setRow_at (heap_alloc_new _ _)); generalize (w3.alloc (.cells (row 32 fun _ => .int .u8 0) 25)).setRow w3.heap.size (rowB 32 f1) = w4 at *; rw [← ega]; clear ega)
          | ((with_reducible show wpList _ _ _ (⟨_, .store 25 (.tmp 7) _, _, _, _, _⟩ :: _) _ _); refine wpList_store_rowTo rfl 25 (.tmp 7) _ rfl rfl w5.heap.size (rowB 32 f2) rfl rfl 25 _ (heap_alloc_new _ _) HZ2.out (by rw [row_size, rowB_size]) (rowB_oneCell _ _) ?_; obtain ⟨gb, egb⟩ : ∃ g, g = w5.heap.size := ⟨_, rfl⟩; have HB6 := Lib.hid (show Below wr.heap.size wr ((w5.alloc (.cells (row 32 fun _ => .int .u8 0) 25)).setRow w5.heap.size (rowB 32 f2)) from below_setRow (below_allocS HB5.out _) HB5.out.size _); have HA6 := Lib.hid (show ((w5.alloc (.cells (row 32 fun _ => .int .u8 0) 25)).setRow w5.heap.size (rowB 32 f2)).heap[ga]? = some (.cells (rowB 32 f1) 25 (0, 0)) from (heap_setRow_far (Nat.ne_of_lt (Array.getElem?_eq_some_iff.1 HG5.out).1)).trans ((Below.heap_alloc _ _ _ (Array.getElem?_eq_some_iff.1 HG5.out).1).trans HG5.out)); have HG6 := Lib.hid (show ((w5.alloc (.cells (row 32 fun _ => .int .u8 0) 25)).setRow w5.heap.size (rowB 32 f2)).heap[gb]? = some (.cells (rowB 32 f2) 25 (0, 0)) from by rw [egb]; exact heap_setRow_at (heap_alloc_new _ _)); generalize (w5.alloc (.cells (row 32 fun _ => .int .u8 0) 25)).setRow w5.heap.size (rowB 32 f2) = w6 at *; rw [← egb]; clear egb))
        clear hs1 hs2
        have HV6 := Lib.hid (HV1.out.below HB6.out)
        refine wp_region_tree (S := fun w' => Below w6.heap.size w6 w') 9 (by kernel_rfl) (by kernel_rfl) (Below.refl _ _).drew (fun hHeld => ?_)
        refine wpAnyH_take (i := 0) (v := ?_) rfl (by kernel_rfl) (by kernel_rfl) (by kernel_rfl) (fun _ _ _ h => h) (Or.inl ⟨by rfl, ?_⟩) hHeld ?_
        rotate_left
        · (intro w hSw; go_simp; first | done | with_reducible rfl)
        try simp only [Act.put, List.getElem_toArray, List.getElem_cons_zero, List.getElem_cons_succ, List.setIfInBounds_toArray, List.set_cons_zero, List.set_cons_succ]
        refine wpAnyH_take (i := 3) (v := ?_) rfl (by kernel_rfl) (by kernel_rfl) (by kernel_rfl) (fun _ _ _ h => h) (Or.inl ⟨by rfl, ?_⟩) hHeld ?_
        rotate_left
        · (intro w hSw; go_simp; first | done | with_reducible rfl)
        try simp only [Act.put, List.getElem_toArray, List.getElem_cons_zero, List.getElem_cons_succ, List.setIfInBounds_toArray, List.set_cons_zero, List.set_cons_succ]
        refine wpAnyH_take (i := 4) (v := ?_) rfl (by kernel_rfl) (by kernel_rfl) (by kernel_rfl) (fun _ _ _ h => h) (Or.inl ⟨by rfl, ?_⟩) hHeld ?_
        rotate_left
        · (intro w hSw; go_simp; first | done | with_reducible rfl)
        try simp only [Act.put, List.getElem_toArray, List.getElem_cons_zero, List.getElem_cons_succ, List.setIfInBounds_toArray, List.set_cons_zero, List.set_cons_succ]
        refine wpAnyH_ready (rs := [1, 2]) (by kernel_rfl) (by simp) ((AllReadyH.cons rfl (fun K hK => ?_) (AllReadyH.cons rfl (fun K hK => ?_) AllReadyH.nil)))
        · rw [if_pos (by rfl)]
          go_simp; refine (HRT.out _ (HV6.out.below hHeld)).mono ?_; rintro e w7 ⟨rfl, hbc⟩; dsimp only
          refine hK.out _ _ (below_keep hHeld hbc) (fun hHeld2 => ?_)
          clear hK K hHeld
          have hHeld := hHeld2
          clear hHeld2
          try simp only [Act.put, List.getElem_toArray, List.getElem_cons_zero, List.getElem_cons_succ, List.setIfInBounds_toArray, List.set_cons_zero, List.set_cons_succ]
          refine wpAnyH_ready (rs := [2]) (by kernel_rfl) (by simp) ((AllReadyH.cons rfl (fun K hK => ?_) AllReadyH.nil))
          rw [if_pos (by rfl)]
          refine wpm_build1 (.const (.int .u8 1)) rfl 1 rfl ?_; intro g2 w8 h2 hg2
          refine hK.out _ _ (hHeld.grown hg2 hHeld.size (fun k hk => by cases hk)) (fun hHeld2 => ?_)
          clear hK K hHeld
          have hHeld := hHeld2
          clear hHeld2
          try simp only [Act.put, List.getElem_toArray, List.getElem_cons_zero, List.getElem_cons_succ, List.setIfInBounds_toArray, List.set_cons_zero, List.set_cons_succ]
          refine wpAnyH_ready (rs := [5]) (by kernel_rfl) (by simp) ((AllReadyH.cons rfl (fun K hK => ?_) AllReadyH.nil))
          rw [if_pos (by rfl)]
          refine wpm_build3 (.tmp 51) (.tmp 52) (.tmp 53) rfl (some ⟨g2, 0, none⟩) 1 1 (some ⟨ga, 0, none⟩) 32 32 (some ⟨gb, 0, none⟩) 32 32 rfl rfl rfl ?_; intro g5 w9 h5 hg5; have h25 := h2.below ((Below.refl _ _).grown hg5 (Nat.le_refl _) (fun k hk => by cases hk))
          refine hK.out _ _ (hHeld.grown hg5 hHeld.size (fun k hk => by cases hk)) (fun hHeld2 => ?_)
          clear hK K hHeld
          have hHeld := hHeld2
          clear hHeld2
          try simp only [Act.put, List.getElem_toArray, List.getElem_cons_zero, List.getElem_cons_succ, List.setIfInBounds_toArray, List.set_cons_zero, List.set_cons_succ]
          refine wpAnyH_ready (rs := [6]) (by kernel_rfl) (by simp) ((AllReadyH.cons rfl (fun K hK => ?_) AllReadyH.nil))
          rw [if_pos (by rfl)]
          go_simp; refine (HS3.out _ _ (brows_three h5 h25 (brow_num ((hHeld.block _ (Array.getElem?_eq_some_iff.1 HA6.out).1).trans HA6.out)) (brow_num ((hHeld.block _ (Array.getElem?_eq_some_iff.1 HG6.out).1).trans HG6.out)))).mono ?_; rintro e w10 ⟨rfl, hbc⟩; dsimp only
          refine hK.out _ _ (below_keep hHeld hbc) (fun hHeld2 => ?_)
          clear hK K hHeld
          have hHeld := hHeld2
          clear hHeld2
          try simp only [Act.put, List.getElem_toArray, List.getElem_cons_zero, List.getElem_cons_succ, List.setIfInBounds_toArray, List.set_cons_zero, List.set_cons_succ]
          refine wpAnyH_take (i := 7) rfl (by kernel_rfl) (by kernel_rfl) (by kernel_rfl) (fun _ _ _ h => h) (yieldsIf_sameNum (by rfl) _ _ rfl r rfl rfl) hHeld ?_
          try simp only [Act.put, List.getElem_toArray, List.getElem_cons_zero, List.getElem_cons_succ, List.setIfInBounds_toArray, List.set_cons_zero, List.set_cons_succ]
          refine wpAnyH_take (i := 8) (v := ?_) rfl (by kernel_rfl) (by kernel_rfl) (by kernel_rfl) (fun _ _ _ h => h) (Or.inl ⟨by rfl, ?_⟩) hHeld ?_
          rotate_left
          · (intro w hSw; go_simp; first | done | with_reducible rfl)
          try simp only [Act.put, List.getElem_toArray, List.getElem_cons_zero, List.getElem_cons_succ, List.setIfInBounds_toArray, List.set_cons_zero, List.set_cons_succ]
          refine wpAnyH_done (by kernel_rfl) (NoPanic.normal ?_) _
          (go_wp2; go_ret; exact ⟨rfl, below_keep HB1.out (below_keep HB6.out hHeld)⟩)
        · rw [if_pos (by rfl)]
          refine wpm_build1 (.const (.int .u8 1)) rfl 1 rfl ?_; intro g2 w8 h2 hg2
          refine hK.out _ _ (hHeld.grown hg2 hHeld.size (fun k hk => by cases hk)) (fun hHeld2 => ?_)
          clear hK K hHeld
          have hHeld := hHeld2
          clear hHeld2
          try simp only [Act.put, List.getElem_toArray, List.getElem_cons_zero, List.getElem_cons_succ, List.setIfInBounds_toArray, List.set_cons_zero, List.set_cons_succ]
          refine wpAnyH_ready (rs := [1, 5]) (by kernel_rfl) (by simp) ((AllReadyH.cons rfl (fun K hK => ?_) (AllReadyH.cons rfl (fun K hK => ?_) AllReadyH.nil)))
          · rw [if_pos (by rfl)]
            go_simp; refine (HRT.out _ (HV6.out.below hHeld)).mono ?_; rintro e w7 ⟨rfl, hbc⟩; dsimp only
            replace h2 := h2.below hbc
            refine hK.out _ _ (below_keep hHeld hbc) (fun hHeld2 => ?_)
            clear hK K hHeld
            have hHeld := hHeld2
            clear hHeld2
            try simp only [Act.put, List.getElem_toArray, List.getElem_cons_zero, List.getElem_cons_succ, List.setIfInBounds_toArray, List.set_cons_zero, List.set_cons_succ]
            refine wpAnyH_ready (rs := [5]) (by kernel_rfl) (by simp) ((AllReadyH.cons rfl (fun K hK => ?_) AllReadyH.nil))
            rw [if_pos (by rfl)]
            refine wpm_build3 (.tmp 51) (.tmp 52) (.tmp 53) rfl (some ⟨g2, 0, none⟩) 1 1 (some ⟨ga, 0, none⟩) 32 32 (some ⟨gb, 0, none⟩) 32 32 rfl rfl rfl ?_; intro g5 w9 h5 hg5; have h25 := h2.below ((Below.refl _ _).grown hg5 (Nat.le_refl _) (fun k hk => by cases hk))
            refine hK.out _ _ (hHeld.grown hg5 hHeld.size (fun k hk => by cases hk)) (fun hHeld2 => ?_)
            clear hK K hHeld
            have hHeld := hHeld2
            clear hHeld2
            try simp only [Act.put, List.getElem_toArray, List.getElem_cons_zero, List.getElem_cons_succ, List.setIfInBounds_toArray, List.set_cons_zero, List.set_cons_succ]
            refine wpAnyH_ready (rs := [6]) (by kernel_rfl) (by simp) ((AllReadyH.cons rfl (fun K hK => ?_) AllReadyH.nil))
            rw [if_pos (by rfl)]
            go_simp; refine (HS3.out _ _ (brows_three h5 h25 (brow_num ((hHeld.block _ (Array.getElem?_eq_some_iff.1 HA6.out).1).trans HA6.out)) (brow_num ((hHeld.block _ (Array.getElem?_eq_some_iff.1 HG6.out).1).trans HG6.out)))).mono ?_; rintro e w10 ⟨rfl, hbc⟩; dsimp only
            refine hK.out _ _ (below_keep hHeld hbc) (fun hHeld2 => ?_)
            clear hK K hHeld
            have hHeld := hHeld2
            clear hHeld2
            try simp only [Act.put, List.getElem_toArray, List.getElem_cons_zero, List.getElem_cons_succ, List.setIfInBounds_toArray, List.set_cons_zero, List.set_cons_succ]
            refine wpAnyH_take (i := 7) rfl (by kernel_rfl) (by kernel_rfl) (by kernel_rfl) (fun _ _ _ h => h) (yieldsIf_sameNum (by rfl) _ _ rfl r rfl rfl) hHeld ?_
            try simp only [Act.put, List.getElem_toArray, List.getElem_cons_zero, List.getElem_cons_succ, List.setIfInBounds_toArray, List.set_cons_zero, List.set_cons_succ]
            refine wpAnyH_take (i := 8) (v := ?_) rfl (by kernel_rfl) (by kernel_rfl) (by kernel_rfl) (fun _ _ _ h => h) (Or.inl ⟨by rfl, ?_⟩) hHeld ?_
            rotate_left
            · (intro w hSw; go_simp; first | done | with_reducible rfl)
            try simp only [Act.put, List.getElem_toArray, List.getElem_cons_zero, List.getElem_cons_succ, List.setIfInBounds_toArray, List.set_cons_zero, List.set_cons_succ]
            refine wpAnyH_done (by kernel_rfl) (NoPanic.normal ?_) _
            (go_wp2; go_ret; exact ⟨rfl, below_keep HB1.out (below_keep HB6.out hHeld)⟩)
          · rw [if_pos (by rfl)]
            refine wpm_build3 (.tmp 51) (.tmp 52) (.tmp 53) rfl (some ⟨g2, 0, none⟩) 1 1 (some ⟨ga, 0, none⟩) 32 32 (some ⟨gb, 0, none⟩) 32 32 rfl rfl rfl ?_; intro g5 w9 h5 hg5; have h25 := h2.below ((Below.refl _ _).grown hg5 (Nat.le_refl _) (fun k hk => by cases hk))
            refine hK.out _ _ (hHeld.grown hg5 hHeld.size (fun k hk => by cases hk)) (fun hHeld2 => ?_)
            clear hK K hHeld
            have hHeld := hHeld2
            clear hHeld2
            try simp only [Act.put, List.getElem_toArray, List.getElem_cons_zero, List.getElem_cons_succ, List.setIfInBounds_toArray, List.set_cons_zero, List.set_cons_succ]
            refine wpAnyH_ready (rs := [1]) (by kernel_rfl) (by simp) ((AllReadyH.cons rfl (fun K hK => ?_) AllReadyH.nil))
            rw [if_pos (by rfl)]
            go_simp; refine (HRT.out _ (HV6.out.below hHeld)).mono ?_; rintro e w7 ⟨rfl, hbc⟩; dsimp only
            replace h25 := h25.below hbc; replace h5 := (hbc.block _ (Array.getElem?_eq_some_iff.1 h5).1).trans h5
            refine hK.out _ _ (below_keep hHeld hbc) (fun hHeld2 => ?_)
            clear hK K hHeld
            have hHeld := hHeld2
            clear hHeld2
            try simp only [Act.put, List.getElem_toArray, List.getElem_cons_zero, List.getElem_cons_succ, List.setIfInBounds_toArray, List.set_cons_zero, List.set_cons_succ]
            refine wpAnyH_ready (rs := [6]) (by kernel_rfl) (by simp) ((AllReadyH.cons rfl (fun K hK => ?_) AllReadyH.nil))
            rw [if_pos (by rfl)]
            go_simp; refine (HS3.out _ _ (brows_three h5 h25 (brow_num ((hHeld.block _ (Array.getElem?_eq_some_iff.1 HA6.out).1).trans HA6.out)) (brow_num ((hHeld.block _ (Array.getElem?_eq_some_iff.1 HG6.out).1).trans HG6.out)))).mono ?_; rintro e w10 ⟨rfl, hbc⟩; dsimp only
            refine hK.out _ _ (below_keep hHeld hbc) (fun hHeld2 => ?_)
            clear hK K hHeld
            have hHeld := hHeld2
            clear hHeld2
            try simp only [Act.put, List.getElem_toArray, List.getElem_cons_zero, List.getElem_cons_succ, List.setIfInBounds_toArray, List.set_cons_zero, List.set_cons_succ]
            refine wpAnyH_take (i := 7) rfl (by kernel_rfl) (by kernel_rfl) (by kernel_rfl) (fun _ _ _ h => h) (yieldsIf_sameNum (by rfl) _ _ rfl r rfl rfl) hHeld ?_
            try simp only [Act.put, List.getElem_toArray, List.getElem_cons_zero, List.getElem_cons_succ, List.setIfInBounds_toArray, List.set_cons_zero, List.set_cons_succ]
            refine wpAnyH_take (i := 8) (v := ?_) rfl (by kernel_rfl) (by kernel_rfl) (by kernel_rfl) (fun _ _ _ h => h) (Or.inl ⟨by rfl, ?_⟩) hHeld ?_
            rotate_left
            · (intro w hSw; go_simp; first | done | with_reducible rfl)
            try simp only [Act.put, List.getElem_toArray, List.getElem_cons_zero, List.getElem_cons_succ, List.setIfInBounds_toArray, List.set_cons_zero, List.set_cons_succ]
            refine wpAnyH_done (by kernel_rfl) (NoPanic.normal ?_) _
            (go_wp2; go_ret; exact ⟨rfl, below_keep HB1.out (below_keep HB6.out hHeld)⟩)

set_option maxHeartbeats 1000000 in
theorem merkleMade_out (A : Option Addr) (N c : Nat) (l : List (List (BitVec 8))) (w : World) (hN : N = l.length) (hv : BRows w (.slice A N c) l) (h : bigB l = true ∨ bigB l = false ∧ N = 0) :
    Calls Try.prog 6 #[.slice A N c] w fun e w' => e = .returned (.bool true) ∧ Below w.heap.size w w' := by
  have HV := Lib.hid hv
  have HBG := Lib.hid (show ∀ w, BRows w (.slice A N c) l → Calls Try.prog 16 #[.slice A N c] w fun e w' => e = .returned (.bool (bigB l)) ∧ w = w' from fun w hv => big_any _ l w hv)
  clear hv hN
  rcases h with h | ⟨h, h0⟩
  · rw [h] at HBG
    clear h
    go_enter Try.func6, Try.ntmps6
    go_wp2_with (first
      | (go_at_call 12; refine (alive15_any _).mono ?_; rintro e w1 ⟨rfl, hb1⟩)
      | (go_at_call 16; refine (HBG.out _ (HV.out.below hb1)).mono ?_; rintro e w2 ⟨rfl, rfl⟩))
    go_ret
    exact ⟨rfl, hb1⟩
  · rw [h] at HBG
    subst h0
    clear h
    go_enter Try.func6, Try.ntmps6
    go_wp2_with (first
      | (go_at_call 12; refine (alive15_any _).mono ?_; rintro e w1 ⟨rfl, hb1⟩)
      | (go_at_call 16; refine (HBG.out _ (HV.out.below hb1)).mono ?_; rintro e w2 ⟨rfl, rfl⟩))
    go_ret
    exact ⟨rfl, hb1⟩
theorem merkleMade_walk {w : World} (v : Value) (l : List (List (BitVec 8))) (hv : BRows w v l) (hq : CapOk v) :
    Calls Try.prog 6 #[v] w fun e w' => e = .returned (.bool true) ∧ Below w.heap.size w w' := by
  obtain ⟨a, c, rfl⟩ := hv.shape
  cases h : bigB l with
  | true => exact merkleMade_out a _ c l w rfl hv (.inl h)
  | false =>
    by_cases h0 : l.length = 0
    · exact merkleMade_out a _ c l w rfl hv (.inr ⟨h, h0⟩)
    · exact merkleMade_in a _ c l w rfl hv (hq _ _ _ rfl).1 h (by omega)

end Go.Proofs.Ytnnllficjljjkaa
