/-
  The walks of the document's own Path and SameNums.
-/
import Derived.Test.YtnnllficjljjkaaDoorRefMerk
namespace Go.Proofs.YtnnllficjljjkaaDoor
open Go.RowKit
set_option linter.unusedVariables false
set_option linter.unusedSimpArgs false

set_option maxRecDepth 100000 in
set_option maxHeartbeats 2000000 in
theorem refPath_any : ∀ (N : Nat) (l : List (List (BitVec 8))) (A : Option Addr) (c i : Nat) (w : World), N = l.length → BRows w (.slice A N c) l → N ≤ c → N ≤ 100000000 → l.flatten.length ≤ 99999900 → i < N → KAt w →
    Calls Tryd.prog 47 #[.slice A N c, .int .i64 (i : Int)] w fun e w' => ∃ v, e = .returned v ∧ OwnN w' w.heap.size v (pathS l i) ∧ Below w.heap.size w w' := by
  intro N
  induction N using Nat.strongRecOn with
  | _ N ih =>
    intro l A c i w hN hv hc hl hf hi hka
    have HKA := Lib.hid hka
    have HV := Lib.hid hv
    have HN := Lib.hid hN
    have HC := Lib.hid hc
    have HL := Lib.hid hl
    have HF := Lib.hid hf
    have IH := Lib.hid ih
    clear hv hc hf ih hN hka
    have hi0 : (0 : Int) ≤ (i : Int) := by omega
    have hN9 : (N : Int) ≤ 100000000 := by omega
    have hi1 : (i : Int) < (N : Int) := by omega
    by_cases h1 : N = 1
    · subst h1
      rw [pathS_one i (by rw [← HN.out]; decide)]
      go_enter Tryd.func47, Tryd.ntmps47
      go_wp2_with fail
      go_ret
      exact ⟨_, rfl, World.ownsRow_nil _ _ _ _, Below.refl _ _⟩
    · have h2 : 2 ≤ N := by omega
      have hN1 : ¬ ((N : Int) < 2) := by omega
      have hk1 := cutN_lt h2
      have hk0 := cutN_pos N
      have HCU := Lib.hid (show ∀ w, Calls Tryd.prog 60 #[.int .i64 (N : Int)] w fun e w' => e = .returned (.int .i64 (cutN N : Int)) ∧ w = w' from fun w => half_any N w h2 (by omega))
      have hPL := fun hi => pathS_left (l := l) (i := i) (by rw [← HN.out]; exact h2) hi
      have hPR := fun hi => pathS_right (l := l) (i := i) (by rw [← HN.out]; exact h2) hi
      rw [← HN.out] at hPL hPR
      generalize cutN N = k at *
      have hft := flat_take l k
      have HS1 := Lib.hid (slice_hiS (A := A) (n := N) (c := c) (k := k) (by have := HC.out; omega))
      have HS2 := Lib.hid (slice_loS (A := A) (n := N) (c := c) (i := k) (by omega))
      by_cases hik : i < k
      · have hP := hPL hik
        have hik1 : (i : Int) < (k : Int) := by omega
        clear hPL hPR
        obtain ⟨f2, hf2⟩ : ∃ f, f = rootS (l.drop k) := ⟨_, rfl⟩
        obtain ⟨ps, hps⟩ : ∃ ps, ps = pathS (l.take k) i := ⟨_, rfl⟩
        have hpath : pathS l i = ps ++ [f2] := by rw [hps, hf2]; exact hP
        have HX1 := Lib.hid (show ∀ w, BRows w (.slice A N c) l → KAt w → Calls Tryd.prog 47 #[.slice A k c, .int .i64 (i : Int)] w fun e w' => ∃ v, e = .returned v ∧ OwnN w' w.heap.size v ps ∧ Below w.heap.size w w' from fun w hv hka => by
          have := IH.out k hk1 (l.take k) A c i w (by rw [List.length_take, ← HN.out]; omega) (hv.hi (by rw [← HN.out]; omega) (by rw [← HN.out]; exact HC.out)) (by have := HC.out; omega) (by omega) (by have := HF.out; omega) (by omega) hka
          rw [hps]
          exact this)
        have HX2 := Lib.hid (show ∀ w, BRows w (.slice A N c) l → KAt w → Calls Tryd.prog 44 #[.slice (cutA A c k) (N - k) (c - k)] w fun e w' => e = .returned (.agg (rowB 32 f2)) ∧ Below w.heap.size w w' from fun w hv hka => by
          rw [hf2]; exact refRoot_any (N - k) (l.drop k) (cutA A c k) (c - k) w (by rw [List.length_drop, ← HN.out]) (hv.lo (by rw [← HN.out]; omega) (by rw [← HN.out]; exact HC.out)) (by have := HC.out; omega) (by omega) (by have := HF.out; omega) hka)
        have hpl : ps.length ≤ 100000000 := by
          rw [hps]
          have h1 := pathS_length k (l.take k) i (by rw [List.length_take, ← HN.out]; omega) (by rw [List.length_take, ← HN.out]; omega)
          have h2 := dirs_le 27 k i (by omega) (by omega)
          omega
        rw [hpath]
        clear hf2 hps hpath hP hft
        go_enter Tryd.func47, Tryd.ntmps47
        go_wp2_with (go_at_call 60; refine (HCU.out _).mono ?_; rintro e w2 ⟨rfl, rfl⟩)
        refine wp_region_plan (S := fun w' => Below w.heap.size w w') [0, 1, 2, 3, 5, 6, 7, 4, 8, 9, 10, 11] [true, true, true, true, true, true, true, false, false, false, false, true] (by kernel_rfl) (by kernel_rfl) (Below.refl _ _).drew (fun hHeld => ?_)
        simp only [List.filterMap_cons, List.filterMap_nil, List.getElem?_toArray, List.getElem?_cons_zero, List.getElem?_cons_succ]
        refine seqH_take (v := ?_) (Or.inl ⟨by rfl, ?_⟩) ?_
        rotate_left
        · (intro w hSw; go_simp; first | done | with_reducible rfl)
        try simp only [Act.put, List.setIfInBounds_toArray, List.set_cons_zero, List.set_cons_succ]
        refine seqH_take (v := ?_) (Or.inl ⟨by rfl, ?_⟩) ?_
        rotate_left
        · (intro w hSw; go_simp; first | done | with_reducible rfl)
        try simp only [Act.put, List.setIfInBounds_toArray, List.set_cons_zero, List.set_cons_succ]
        refine seqH_take (yieldsIf_slice (by rfl) _ _ _ _ rfl _ (fun w _ => HS1.out w)) ?_
        try simp only [Act.put, List.setIfInBounds_toArray, List.set_cons_zero, List.set_cons_succ]
        refine seqH_take (v := ?_) (Or.inl ⟨by rfl, ?_⟩) ?_
        rotate_left
        · (intro w hSw; go_simp; first | done | with_reducible rfl)
        try simp only [Act.put, List.setIfInBounds_toArray, List.set_cons_zero, List.set_cons_succ]
        refine seqH_take (v := ?_) (Or.inl ⟨by rfl, ?_⟩) ?_
        rotate_left
        · (intro w hSw; go_simp; first | done | with_reducible rfl)
        try simp only [Act.put, List.setIfInBounds_toArray, List.set_cons_zero, List.set_cons_succ]
        refine seqH_take (v := ?_) (Or.inl ⟨by rfl, ?_⟩) ?_
        rotate_left
        · (intro w hSw; go_simp; first | done | with_reducible rfl)
        try simp only [Act.put, List.setIfInBounds_toArray, List.set_cons_zero, List.set_cons_succ]
        refine seqH_take (yieldsIf_slice (by rfl) _ _ _ _ rfl _ (fun w _ => HS2.out w)) ?_
        try simp only [Act.put, List.setIfInBounds_toArray, List.set_cons_zero, List.set_cons_succ]
        refine seqH_go (fun K hK => ?_)
        rw [if_pos (by rfl)]
        go_simp
        refine (HX1.out w.drew (HV.out.below (Below.refl _ _).drew) (HKA.out.below (Below.refl _ _).drew)).mono ?_; rintro e w3 ⟨v3, rfl, hown3, hbc⟩
        try dsimp only
        refine hK.out _ _ (below_keep hHeld hbc) (fun hHeld2 => ?_)
        clear hK K hHeld
        have hHeld := hHeld2
        clear hHeld2
        try simp only [Act.put, List.setIfInBounds_toArray, List.set_cons_zero, List.set_cons_succ]
        refine seqH_go (fun K hK => ?_)
        rw [if_pos (by rfl)]
        go_simp
        refine (HX2.out _ (HV.out.below hHeld) (HKA.out.below hHeld)).mono ?_; rintro e w4 ⟨rfl, hbc4⟩; have hbc := hbc4; have hown4 : OwnN w4 w.heap.size v3 ps := World.ownsRow.kept0 hown3 (grown_of_below hbc4)
        try dsimp only
        refine hK.out _ _ (below_keep hHeld hbc) (fun hHeld2 => ?_)
        clear hK K hHeld
        have hHeld := hHeld2
        clear hHeld2
        try simp only [Act.put, List.setIfInBounds_toArray, List.set_cons_zero, List.set_cons_succ]
        refine seqH_go (fun K hK => ?_)
        rw [if_pos (by rfl)]
        refine wp_build_to (.tmp 23) rfl f2 rfl ?_; intro g5 w5 h5 e5 hg5; clear e5; have hS3 : Below w.heap.size w w5 := hHeld.grown hg5 hHeld.size (fun k hk => by cases hk); have hown5 : OwnN w5 w.heap.size v3 ps := World.ownsRow.kept0 hown4 hg5
        refine hK.out _ _ hS3 (fun hHeld2 => ?_)
        clear hK K hHeld hS3
        have hHeld := hHeld2
        clear hHeld2
        try simp only [Act.put, List.setIfInBounds_toArray, List.set_cons_zero, List.set_cons_succ]
        refine seqH_go (fun K hK => ?_)
        rw [if_pos (by rfl)]
        refine wp_append_N (.tmp 19) (.tmp 24) rfl w.heap.size v3 ps [f2] rfl hown5 (nrow_one h5) (by simp; omega) hHeld.size ?_; intro v6 w6 hown6 hg6; have hS3 : Below w.heap.size w w6 := hHeld.grown hg6 hHeld.size (fun k hk => (World.ownsRow.lt hown5 k hk).1)
        refine hK.out _ _ hS3 (fun hHeld2 => ?_)
        clear hK K hHeld hS3
        have hHeld := hHeld2
        clear hHeld2
        try simp only [Act.put, List.setIfInBounds_toArray, List.set_cons_zero, List.set_cons_succ]
        refine seqH_take (v := ?_) (Or.inl ⟨by rfl, ?_⟩) ?_
        rotate_left
        · (intro w hSw; go_simp; first | done | with_reducible rfl)
        try simp only [Act.put, List.setIfInBounds_toArray, List.set_cons_zero, List.set_cons_succ]
        refine seqH_nil (NoPanic.normal ?_)
        have HO6 := Lib.hid hown6
        clear hown3 hown4 hown5 hown6 hg5 hg6 h5 hbc4
        go_wp2
        go_ret
        exact ⟨_, rfl, HO6.out, hHeld⟩
      · have hP := hPR hik
        have hik1 : (k : Int) ≤ (i : Int) := by omega
        have hik2 : ¬ (i : Int) < (k : Int) := by omega
        have hw1 : IntKind.i64.wrap ((i : Int) - (k : Int)) = (i : Int) - (k : Int) := IntWalk.i64_in _ (by omega)
        clear hPL hPR
        obtain ⟨f2, hf2⟩ : ∃ f, f = rootS (l.take k) := ⟨_, rfl⟩
        obtain ⟨ps, hps⟩ : ∃ ps, ps = pathS (l.drop k) (i - k) := ⟨_, rfl⟩
        have hpath : pathS l i = ps ++ [f2] := by rw [hps, hf2]; exact hP
        have HX1 := Lib.hid (show ∀ w, BRows w (.slice A N c) l → KAt w → Calls Tryd.prog 47 #[.slice (cutA A c k) (N - k) (c - k), .int .i64 ((i : Int) - (k : Int))] w fun e w' => ∃ v, e = .returned v ∧ OwnN w' w.heap.size v ps ∧ Below w.heap.size w w' from fun w hv hka => by
          have := IH.out (N - k) (by omega) (l.drop k) (cutA A c k) (c - k) (i - k) w (by rw [List.length_drop, ← HN.out]) (hv.lo (by rw [← HN.out]; omega) (by rw [← HN.out]; exact HC.out)) (by have := HC.out; omega) (by omega) (by have := HF.out; omega) (by omega) hka
          rw [hps]
          rw [show (((i - k : Nat)) : Int) = (i : Int) - (k : Int) by omega] at this
          exact this)
        have HX2 := Lib.hid (show ∀ w, BRows w (.slice A N c) l → KAt w → Calls Tryd.prog 44 #[.slice A k c] w fun e w' => e = .returned (.agg (rowB 32 f2)) ∧ Below w.heap.size w w' from fun w hv hka => by
          rw [hf2]; exact refRoot_any k (l.take k) A c w (by rw [List.length_take, ← HN.out]; omega) (hv.hi (by rw [← HN.out]; omega) (by rw [← HN.out]; exact HC.out)) (by have := HC.out; omega) (by omega) (by have := HF.out; omega) hka)
        have hpl : ps.length ≤ 100000000 := by
          rw [hps]
          have h1 := pathS_length (N - k) (l.drop k) (i - k) (by rw [List.length_drop, ← HN.out]; omega) (by rw [List.length_drop, ← HN.out])
          have h2 := dirs_le 27 (N - k) (i - k) (by omega) (by omega)
          omega
        rw [hpath]
        clear hf2 hps hpath hP hft
        go_enter Tryd.func47, Tryd.ntmps47
        go_wp2_with (go_at_call 60; refine (HCU.out _).mono ?_; rintro e w2 ⟨rfl, rfl⟩)
        refine wp_region_plan (S := fun w' => Below w.heap.size w w') [0, 1, 2, 3, 4, 5, 7, 8, 9, 6, 10, 11, 12, 13] [true, true, true, true, true, true, true, true, true, false, false, false, false, true] (by kernel_rfl) (by kernel_rfl) (Below.refl _ _).drew (fun hHeld => ?_)
        simp only [List.filterMap_cons, List.filterMap_nil, List.getElem?_toArray, List.getElem?_cons_zero, List.getElem?_cons_succ]
        refine seqH_take (v := ?_) (Or.inl ⟨by rfl, ?_⟩) ?_
        rotate_left
        · (intro w hSw; go_simp; first | done | with_reducible rfl)
        try simp only [Act.put, List.setIfInBounds_toArray, List.set_cons_zero, List.set_cons_succ]
        refine seqH_take (v := ?_) (Or.inl ⟨by rfl, ?_⟩) ?_
        rotate_left
        · (intro w hSw; go_simp; first | done | with_reducible rfl)
        try simp only [Act.put, List.setIfInBounds_toArray, List.set_cons_zero, List.set_cons_succ]
        refine seqH_take (yieldsIf_slice (by rfl) _ _ _ _ rfl _ (fun w _ => HS2.out w)) ?_
        try simp only [Act.put, List.setIfInBounds_toArray, List.set_cons_zero, List.set_cons_succ]
        refine seqH_take (v := ?_) (Or.inl ⟨by rfl, ?_⟩) ?_
        rotate_left
        · (intro w hSw; go_simp; first | done | with_reducible rfl)
        try simp only [Act.put, List.setIfInBounds_toArray, List.set_cons_zero, List.set_cons_succ]
        refine seqH_take (v := ?_) (Or.inl ⟨by rfl, ?_⟩) ?_
        rotate_left
        · (intro w hSw; go_simp; first | done | with_reducible rfl)
        try simp only [Act.put, List.setIfInBounds_toArray, List.set_cons_zero, List.set_cons_succ]
        refine seqH_take (v := ?_) (Or.inl ⟨by rfl, ?_⟩) ?_
        rotate_left
        · (intro w hSw; go_simp; first | done | with_reducible rfl)
        try simp only [Act.put, List.setIfInBounds_toArray, List.set_cons_zero, List.set_cons_succ]
        refine seqH_take (v := ?_) (Or.inl ⟨by rfl, ?_⟩) ?_
        rotate_left
        · (intro w hSw; go_simp; first | done | with_reducible rfl)
        try simp only [Act.put, List.setIfInBounds_toArray, List.set_cons_zero, List.set_cons_succ]
        refine seqH_take (v := ?_) (Or.inl ⟨by rfl, ?_⟩) ?_
        rotate_left
        · (intro w hSw; go_simp; first | done | with_reducible rfl)
        try simp only [Act.put, List.setIfInBounds_toArray, List.set_cons_zero, List.set_cons_succ]
        refine seqH_take (yieldsIf_slice (by rfl) _ _ _ _ rfl _ (fun w _ => HS1.out w)) ?_
        try simp only [Act.put, List.setIfInBounds_toArray, List.set_cons_zero, List.set_cons_succ]
        refine seqH_go (fun K hK => ?_)
        rw [if_pos (by rfl)]
        go_simp
        refine (HX1.out w.drew (HV.out.below (Below.refl _ _).drew) (HKA.out.below (Below.refl _ _).drew)).mono ?_; rintro e w3 ⟨v3, rfl, hown3, hbc⟩
        try dsimp only
        refine hK.out _ _ (below_keep hHeld hbc) (fun hHeld2 => ?_)
        clear hK K hHeld
        have hHeld := hHeld2
        clear hHeld2
        try simp only [Act.put, List.setIfInBounds_toArray, List.set_cons_zero, List.set_cons_succ]
        refine seqH_go (fun K hK => ?_)
        rw [if_pos (by rfl)]
        go_simp
        refine (HX2.out _ (HV.out.below hHeld) (HKA.out.below hHeld)).mono ?_; rintro e w4 ⟨rfl, hbc4⟩; have hbc := hbc4; have hown4 : OwnN w4 w.heap.size v3 ps := World.ownsRow.kept0 hown3 (grown_of_below hbc4)
        try dsimp only
        refine hK.out _ _ (below_keep hHeld hbc) (fun hHeld2 => ?_)
        clear hK K hHeld
        have hHeld := hHeld2
        clear hHeld2
        try simp only [Act.put, List.setIfInBounds_toArray, List.set_cons_zero, List.set_cons_succ]
        refine seqH_go (fun K hK => ?_)
        rw [if_pos (by rfl)]
        refine wp_build_to (.tmp 36) rfl f2 rfl ?_; intro g5 w5 h5 e5 hg5; clear e5; have hS3 : Below w.heap.size w w5 := hHeld.grown hg5 hHeld.size (fun k hk => by cases hk); have hown5 : OwnN w5 w.heap.size v3 ps := World.ownsRow.kept0 hown4 hg5
        refine hK.out _ _ hS3 (fun hHeld2 => ?_)
        clear hK K hHeld hS3
        have hHeld := hHeld2
        clear hHeld2
        try simp only [Act.put, List.setIfInBounds_toArray, List.set_cons_zero, List.set_cons_succ]
        refine seqH_go (fun K hK => ?_)
        rw [if_pos (by rfl)]
        refine wp_append_N (.tmp 32) (.tmp 37) rfl w.heap.size v3 ps [f2] rfl hown5 (nrow_one h5) (by simp; omega) hHeld.size ?_; intro v6 w6 hown6 hg6; have hS3 : Below w.heap.size w w6 := hHeld.grown hg6 hHeld.size (fun k hk => (World.ownsRow.lt hown5 k hk).1)
        refine hK.out _ _ hS3 (fun hHeld2 => ?_)
        clear hK K hHeld hS3
        have hHeld := hHeld2
        clear hHeld2
        try simp only [Act.put, List.setIfInBounds_toArray, List.set_cons_zero, List.set_cons_succ]
        refine seqH_take (v := ?_) (Or.inl ⟨by rfl, ?_⟩) ?_
        rotate_left
        · (intro w hSw; go_simp; first | done | with_reducible rfl)
        try simp only [Act.put, List.setIfInBounds_toArray, List.set_cons_zero, List.set_cons_succ]
        refine seqH_nil (NoPanic.normal ?_)
        have HO6 := Lib.hid hown6
        clear hown3 hown4 hown5 hown6 hg5 hg6 h5 hbc4
        go_wp2
        go_ret
        exact ⟨_, rfl, HO6.out, hHeld⟩


/-! ### are two lists of hashes one? -/
theorem NRow.at {w : World} {A : Option Addr} {n c : Nat} {l : List (Nat → BitVec 8)} (h : NRow w (.slice A n c) l) {i : Nat} (hi : i < l.length) : ∃ b off, A = some ⟨b, off, none⟩ ∧ b < w.heap.size ∧ w.rangeAt b (off + i * 32) (rowB 32 l[i]).toList := by
  obtain ⟨a, c', e, hn, hp⟩ := h
  cases e
  obtain ⟨b, off, rfl, hb, hcell⟩ := hp (by omega)
  refine ⟨b, off, rfl, hb, fun j v hv => ?_⟩
  rw [rowB_toList] at hv
  have hj : j < 32 := by
    rcases Nat.lt_or_ge j 32 with h | h
    · exact h
    · rw [List.getElem?_eq_none (by simpa using h)] at hv; cases hv
  rw [hcell i hi j hj]
  simpa [hj] using hv
theorem below_drewM {n : Nat} {a b : World} (h : Below n a b) (m : Nat) : Below n a (b.drewN m) := ⟨h.os, h.tape, h.output, h.size, h.block⟩

set_option maxRecDepth 100000 in
set_option maxHeartbeats 2000000 in
theorem sameNums_any (v v2 : Value) (l : List (Nat → BitVec 8)) (w : World) (hv : NRow w v l) (hv2 : NRow w v2 l) (hl : l.length ≤ 1000000) :
    Calls Tryd.prog 46 #[v, v2] w fun e w' => e = .returned (.bool true) ∧ Below w.heap.size w w' := by
  obtain ⟨a, c, rfl⟩ := hv.shape
  obtain ⟨a2, c2, rfl⟩ := hv2.shape
  obtain ⟨N, hN⟩ : ∃ N, N = l.length := ⟨_, rfl⟩
  rw [← hN] at hv hv2 hl ⊢
  have HV := Lib.hid hv
  have HV2 := Lib.hid hv2
  have HN := Lib.hid hN
  clear hv hv2 hN
  go_enter Tryd.func46, Tryd.ntmps46
  go_wp2_with fail
  go_loopw [5] (fun i wr => ∃ k : Nat, k ≤ N ∧ i = .int .i64 k ∧ Below w.heap.size w wr) (fun i _ => N - (intOf i).toNat)
  case atStart => exact ⟨0, Nat.zero_le _, rfl, Below.refl _ _⟩
  case round =>
    obtain ⟨k, hk, rfl, hb⟩ := hrel
    have HB := Lib.hid hb
    clear hb
    by_cases hlt : k < N
    · have hkl : k < l.length := by rw [← HN.out]; exact hlt
      obtain ⟨b, off, rfl, hbl, hr⟩ := HV.out.at hkl
      obtain ⟨b2, off2, rfl, hbl2, hr2⟩ := HV2.out.at hkl
      have hk0 : (0 : Int) ≤ (k : Int) := by omega
      have hk1 : (k : Int) < (N : Int) := by omega
      have hk2 : (k : Int) < 1000000 := by omega
      obtain ⟨f, hf⟩ : ∃ f, f = l[k]'hkl := ⟨_, rfl⟩
      rw [← hf] at hr hr2
      have hrg : ∀ w', Below wr.heap.size wr w' → w'.rangeAt b (off + k * 32) (rowB 32 f).toList := fun w' h j v hv => ((below_keep HB.out h).cell (p := ⟨b, off + k * 32 + j, none⟩) hbl).trans (hr j v hv)
      have hrg2 : ∀ w', Below wr.heap.size wr w' → w'.rangeAt b2 (off2 + k * 32) (rowB 32 f).toList := fun w' h j v hv => ((below_keep HB.out h).cell (p := ⟨b2, off2 + k * 32 + j, none⟩) hbl2).trans (hr2 j v hv)
      have hu := Tryd.underlying28
      have hi : (Tryd.prog.info? 28).map (·.size) = some (rowB 32 f).toList.length := by rw [size32]; simp [rowB_size]
      clear hr hr2 hf hkl
      go_wp2_with fail
      refine wp_region_plan (S := fun w' => Below wr.heap.size wr w') [0, 1, 2, 3, 4, 5, 6, 7, 8] [true, true, true, true, true, true, true, true, true] (by kernel_rfl) (by kernel_rfl) (Below.refl _ _).drew (fun hHeld => ?_)
      simp only [List.filterMap_cons, List.filterMap_nil, List.getElem?_toArray, List.getElem?_cons_zero, List.getElem?_cons_succ]
      refine seqH_take (v := ?_) (Or.inl ⟨by rfl, ?_⟩) ?_
      rotate_left
      · (intro w hSw; go_simp; first | done | with_reducible rfl)
      try simp only [Act.put, List.setIfInBounds_toArray, List.set_cons_zero, List.set_cons_succ]
      refine seqH_take (v := ?_) (Or.inl ⟨by rfl, ?_⟩) ?_
      rotate_left
      · (intro w hSw; go_simp; first | done | with_reducible rfl)
      try simp only [Act.put, List.setIfInBounds_toArray, List.set_cons_zero, List.set_cons_succ]
      refine seqH_take (v := ?_) (Or.inl ⟨by rfl, ?_⟩) ?_
      rotate_left
      · (intro w hSw; go_simp; first | done | with_reducible rfl)
      try simp only [Act.put, List.setIfInBounds_toArray, List.set_cons_zero, List.set_cons_succ]
      refine seqH_take (yieldsIf_load_mid (by rfl) _ _ rfl _ _ rfl _ _ (fun w hw => hrg w hw) hu rfl hi) ?_
      try simp only [Act.put, List.setIfInBounds_toArray, List.set_cons_zero, List.set_cons_succ, rowB_back]
      refine seqH_take (v := ?_) (Or.inl ⟨by rfl, ?_⟩) ?_
      rotate_left
      · (intro w hSw; go_simp; first | done | with_reducible rfl)
      try simp only [Act.put, List.setIfInBounds_toArray, List.set_cons_zero, List.set_cons_succ]
      refine seqH_take (v := ?_) (Or.inl ⟨by rfl, ?_⟩) ?_
      rotate_left
      · (intro w hSw; go_simp; first | done | with_reducible rfl)
      try simp only [Act.put, List.setIfInBounds_toArray, List.set_cons_zero, List.set_cons_succ]
      refine seqH_take (v := ?_) (Or.inl ⟨by rfl, ?_⟩) ?_
      rotate_left
      · (intro w hSw; go_simp; first | done | with_reducible rfl)
      try simp only [Act.put, List.setIfInBounds_toArray, List.set_cons_zero, List.set_cons_succ]
      refine seqH_take (yieldsIf_load_mid (by rfl) _ _ rfl _ _ rfl _ _ (fun w hw => hrg2 w hw) hu rfl hi) ?_
      try simp only [Act.put, List.setIfInBounds_toArray, List.set_cons_zero, List.set_cons_succ, rowB_back]
      refine seqH_take (yieldsIf_sameNumNe (by rfl) _ _ rfl f rfl rfl) ?_
      try simp only [Act.put, List.setIfInBounds_toArray, List.set_cons_zero, List.set_cons_succ]
      refine seqH_nil (NoPanic.normal ?_)
      clear hrg hrg2 hu hi
      go_wp2
      go_roundw
      case rel => exact ⟨k + 1, by omega, by go_num, below_keep HB.out hHeld⟩
      case measure => simp [intOf]; omega
    · have hk1 : (N : Int) ≤ (k : Int) := by omega
      go_wp2_with fail
      go_ret
      exact ⟨rfl, HB.out⟩

end Go.Proofs.YtnnllficjljjkaaDoor
