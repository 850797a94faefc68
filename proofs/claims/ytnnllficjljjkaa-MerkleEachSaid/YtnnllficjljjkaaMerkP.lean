/-
  The walks of path and Path (package merkle).
-/
import Derived.Test.YtnnllficjljjkaaMerkR
import Derived.Test.YtnnllficjljjkaaOwnN
namespace Go.Proofs.Ytnnllficjljjkaa
open Go.RowKit
set_option linter.unusedVariables false
set_option linter.unusedSimpArgs false

set_option maxRecDepth 100000 in
set_option maxHeartbeats 2000000 in
theorem path_any : ∀ (N : Nat) (l : List (List (BitVec 8))) (A : Option Addr) (c i : Nat) (w : World), N = l.length → BRows w (.slice A N c) l → N ≤ c → N ≤ 100000000 → l.flatten.length ≤ 99999900 → i < N →
    Calls Try.prog 24 #[.slice A N c, .int .i64 (i : Int)] w fun e w' => ∃ v, e = .returned v ∧ OwnN w' w.heap.size v (pathS l i) ∧ Below w.heap.size w w' := by
  intro N
  induction N using Nat.strongRecOn with
  | _ N ih =>
    intro l A c i w hN hv hc hl hf hi
    have HV := Lib.hid hv
    have HN := Lib.hid hN
    have HC := Lib.hid hc
    have HL := Lib.hid hl
    have HF := Lib.hid hf
    have IH := Lib.hid ih
    clear hv hc hf ih hN
    have hi0 : (0 : Int) ≤ (i : Int) := by omega
    have hN9 : (N : Int) ≤ 100000000 := by omega
    have hi1 : (i : Int) < (N : Int) := by omega
    by_cases h1 : N = 1
    · subst h1
      rw [pathS_one i (by rw [← HN.out]; decide)]
      go_enter Try.func24, Try.ntmps24
      go_wp2_with fail
      go_ret
      exact ⟨_, rfl, World.ownsRow_nil _ _ _ _, Below.refl _ _⟩
    · have h2 : 2 ≤ N := by omega
      have hN1 : ¬ ((N : Int) = 1) := by omega
      have hk1 := cutN_lt h2
      have hk0 := cutN_pos N
      have HCU := Lib.hid (show ∀ w, Calls Try.prog 22 #[.int .i64 (N : Int)] w fun e w' => e = .returned (.int .i64 (cutN N : Int)) ∧ w = w' from fun w => cut_any N w h2 (by omega))
      have hPL := fun hi => pathS_left (l := l) (i := i) (by rw [← HN.out]; exact h2) hi
      have hPR := fun hi => pathS_right (l := l) (i := i) (by rw [← HN.out]; exact h2) hi
      rw [← HN.out] at hPL hPR
      generalize cutN N = k at *
      have hft := flat_take l k
      have HS1 := Lib.hid (slice_hiS (A := A) (n := N) (c := c) (k := k) (by have := HC.out; omega))
      have HS2 := Lib.hid (slice_loS (A := A) (n := N) (c := c) (i := k) (by omega))
      by_cases hik : i < k
      · have hP := hPL hik
        have hik1 : (i : Int) < (k : Int) := by omega
        clear hPL hPR
        obtain ⟨f2, hf2⟩ : ∃ f, f = rootS (l.drop k) := ⟨_, rfl⟩
        obtain ⟨ps, hps⟩ : ∃ ps, ps = pathS (l.take k) i := ⟨_, rfl⟩
        have hpath : pathS l i = ps ++ [f2] := by rw [hps, hf2]; exact hP
        have HX1 := Lib.hid (show ∀ w, BRows w (.slice A N c) l → Calls Try.prog 24 #[.slice A k c, .int .i64 (i : Int)] w fun e w' => ∃ v, e = .returned v ∧ OwnN w' w.heap.size v ps ∧ Below w.heap.size w w' from fun w hv => by
          have := IH.out k hk1 (l.take k) A c i w (by rw [List.length_take, ← HN.out]; omega) (hv.hi (by rw [← HN.out]; omega) (by rw [← HN.out]; exact HC.out)) (by have := HC.out; omega) (by omega) (by have := HF.out; omega) (by omega)
          rw [hps]
          exact this)
        have HX2 := Lib.hid (show ∀ w, BRows w (.slice A N c) l → Calls Try.prog 13 #[.slice (cutA A c k) (N - k) (c - k)] w fun e w' => e = .returned (.agg (rowB 32 f2)) ∧ Below w.heap.size w w' from fun w hv => by
          rw [hf2]; exact root_any (N - k) (l.drop k) (cutA A c k) (c - k) w (by rw [List.length_drop, ← HN.out]) (hv.lo (by rw [← HN.out]; omega) (by rw [← HN.out]; exact HC.out)) (by have := HC.out; omega) (by omega) (by have := HF.out; omega))
        have hpl : ps.length ≤ 100000000 := by
          rw [hps]
          have h1 := pathS_length k (l.take k) i (by rw [List.length_take, ← HN.out]; omega) (by rw [List.length_take, ← HN.out]; omega)
          have h2 := dirs_le 27 k i (by omega) (by omega)
          omega
        rw [hpath]
        clear hf2 hps hpath hP hft
        go_enter Try.func24, Try.ntmps24
        go_wp2_with (go_at_call 22; refine (HCU.out _).mono ?_; rintro e w2 ⟨rfl, rfl⟩)
        refine wp_region_plan (S := fun w' => Below w.heap.size w w') [0, 1, 2, 3, 5, 6, 7, 4, 8, 9, 10, 11] [true, true, true, true, true, true, true, false, false, false, false, true] (by kernel_rfl) (by kernel_rfl) (Below.refl _ _).drew (fun hHeld => ?_)
        simp only [List.filterMap_cons, List.filterMap_nil, List.getElem?_toArray, List.getElem?_cons_zero, List.getElem?_cons_succ]
        refine seqH_take (v := ?_) (Or.inl ⟨by rfl, ?_⟩) ?_
        rotate_left
        · (intro w hSw; go_simp; first | done | with_reducible rfl)
        try simp only [Act.put, List.setIfInBounds_toArray, List.set_cons_zero, List.set_cons_succ]
        refine seqH_take (v := ?_) (Or.inl ⟨by rfl, ?_⟩) ?_
        rotate_left
        · (intro w hSw; go_simp; first | done | with_reducible rfl)
        try simp only [Act.put, List.setIfInBounds_toArray, List.set_cons_zero, List.set_cons_succ]
        refine seqH_take (yieldsIf_slice (by rfl) _ _ _ _ rfl _ (fun w _ => HS1.out w)) ?_
        try simp only [Act.put, List.setIfInBounds_toArray, List.set_cons_zero, List.set_cons_succ]
        refine seqH_take (v := ?_) (Or.inl ⟨by rfl, ?_⟩) ?_
        rotate_left
        · (intro w hSw; go_simp; first | done | with_reducible rfl)
        try simp only [Act.put, List.setIfInBounds_toArray, List.set_cons_zero, List.set_cons_succ]
        refine seqH_take (v := ?_) (Or.inl ⟨by rfl, ?_⟩) ?_
        rotate_left
        · (intro w hSw; go_simp; first | done | with_reducible rfl)
        try simp only [Act.put, List.setIfInBounds_toArray, List.set_cons_zero, List.set_cons_succ]
        refine seqH_take (v := ?_) (Or.inl ⟨by rfl, ?_⟩) ?_
        rotate_left
        · (intro w hSw; go_simp; first | done | with_reducible rfl)
        try simp only [Act.put, List.setIfInBounds_toArray, List.set_cons_zero, List.set_cons_succ]
        refine seqH_take (yieldsIf_slice (by rfl) _ _ _ _ rfl _ (fun w _ => HS2.out w)) ?_
        try simp only [Act.put, List.setIfInBounds_toArray, List.set_cons_zero, List.set_cons_succ]
        refine seqH_go (fun K hK => ?_)
        rw [if_pos (by rfl)]
        go_simp
        refine (HX1.out w.drew (HV.out.below (Below.refl _ _).drew)).mono ?_; rintro e w3 ⟨v3, rfl, hown3, hbc⟩
        try dsimp only
        refine hK.out _ _ (below_keep hHeld hbc) (fun hHeld2 => ?_)
        clear hK K hHeld
        have hHeld := hHeld2
        clear hHeld2
        try simp only [Act.put, List.setIfInBounds_toArray, List.set_cons_zero, List.set_cons_succ]
        refine seqH_go (fun K hK => ?_)
        rw [if_pos (by rfl)]
        go_simp
        refine (HX2.out _ (HV.out.below hHeld)).mono ?_; rintro e w4 ⟨rfl, hbc4⟩; have hbc := hbc4; have hown4 : OwnN w4 w.heap.size v3 ps := World.ownsRow.kept0 hown3 (grown_of_below hbc4)
        try dsimp only
        refine hK.out _ _ (below_keep hHeld hbc) (fun hHeld2 => ?_)
        clear hK K hHeld
        have hHeld := hHeld2
        clear hHeld2
        try simp only [Act.put, List.setIfInBounds_toArray, List.set_cons_zero, List.set_cons_succ]
        refine seqH_go (fun K hK => ?_)
        rw [if_pos (by rfl)]
        refine wp_build_to (.tmp 23) rfl f2 rfl ?_; intro g5 w5 h5 e5 hg5; clear e5; have hS3 : Below w.heap.size w w5 := hHeld.grown hg5 hHeld.size (fun k hk => by cases hk); have hown5 : OwnN w5 w.heap.size v3 ps := World.ownsRow.kept0 hown4 hg5
        refine hK.out _ _ hS3 (fun hHeld2 => ?_)
        clear hK K hHeld hS3
        have hHeld := hHeld2
        clear hHeld2
        try simp only [Act.put, List.setIfInBounds_toArray, List.set_cons_zero, List.set_cons_succ]
        refine seqH_go (fun K hK => ?_)
        rw [if_pos (by rfl)]
        refine wp_append_N (.tmp 19) (.tmp 24) rfl w.heap.size v3 ps [f2] rfl hown5 (nrow_one h5) (by simp; omega) hHeld.size ?_; intro v6 w6 hown6 hg6; have hS3 : Below w.heap.size w w6 := hHeld.grown hg6 hHeld.size (fun k hk => (World.ownsRow.lt hown5 k hk).1)
        refine hK.out _ _ hS3 (fun hHeld2 => ?_)
        clear hK K hHeld hS3
        have hHeld := hHeld2
        clear hHeld2
        try simp only [Act.put, List.setIfInBounds_toArray, List.set_cons_zero, List.set_cons_succ]
        refine seqH_take (v := ?_) (Or.inl ⟨by rfl, ?_⟩) ?_
        rotate_left
        · (intro w hSw; go_simp; first | done | with_reducible rfl)
        try simp only [Act.put, List.setIfInBounds_toArray, List.set_cons_zero, List.set_cons_succ]
        refine seqH_nil (NoPanic.normal ?_)
        have HO6 := Lib.hid hown6
        clear hown3 hown4 hown5 hown6 hg5 hg6 h5 hbc4
        go_wp2
        go_ret
        exact ⟨_, rfl, HO6.out, hHeld⟩
      · have hP := hPR hik
        have hik1 : (k : Int) ≤ (i : Int) := by omega
        have hik2 : ¬ (i : Int) < (k : Int) := by omega
        have hw1 : IntKind.i64.wrap ((i : Int) - (k : Int)) = (i : Int) - (k : Int) := IntWalk.i64_in _ (by omega)
        clear hPL hPR
        obtain ⟨f2, hf2⟩ : ∃ f, f = rootS (l.take k) := ⟨_, rfl⟩
        obtain ⟨ps, hps⟩ : ∃ ps, ps = pathS (l.drop k) (i - k) := ⟨_, rfl⟩
        have hpath : pathS l i = ps ++ [f2] := by rw [hps, hf2]; exact hP
        have HX1 := Lib.hid (show ∀ w, BRows w (.slice A N c) l → Calls Try.prog 24 #[.slice (cutA A c k) (N - k) (c - k), .int .i64 ((i : Int) - (k : Int))] w fun e w' => ∃ v, e = .returned v ∧ OwnN w' w.heap.size v ps ∧ Below w.heap.size w w' from fun w hv => by
          have := IH.out (N - k) (by omega) (l.drop k) (cutA A c k) (c - k) (i - k) w (by rw [List.length_drop, ← HN.out]) (hv.lo (by rw [← HN.out]; omega) (by rw [← HN.out]; exact HC.out)) (by have := HC.out; omega) (by omega) (by have := HF.out; omega) (by omega)
          rw [hps]
          rw [show (((i - k : Nat)) : Int) = (i : Int) - (k : Int) by omega] at this
          exact this)
        have HX2 := Lib.hid (show ∀ w, BRows w (.slice A N c) l → Calls Try.prog 13 #[.slice A k c] w fun e w' => e = .returned (.agg (rowB 32 f2)) ∧ Below w.heap.size w w' from fun w hv => by
          rw [hf2]; exact root_any k (l.take k) A c w (by rw [List.length_take, ← HN.out]; omega) (hv.hi (by rw [← HN.out]; omega) (by rw [← HN.out]; exact HC.out)) (by have := HC.out; omega) (by omega) (by have := HF.out; omega))
        have hpl : ps.length ≤ 100000000 := by
          rw [hps]
          have h1 := pathS_length (N - k) (l.drop k) (i - k) (by rw [List.length_drop, ← HN.out]; omega) (by rw [List.length_drop, ← HN.out])
          have h2 := dirs_le 27 (N - k) (i - k) (by omega) (by omega)
          omega
        rw [hpath]
        clear hf2 hps hpath hP hft
        go_enter Try.func24, Try.ntmps24
        go_wp2_with (go_at_call 22; refine (HCU.out _).mono ?_; rintro e w2 ⟨rfl, rfl⟩)
        refine wp_region_plan (S := fun w' => Below w.heap.size w w') [0, 1, 2, 3, 4, 5, 7, 8, 9, 6, 10, 11, 12, 13] [true, true, true, true, true, true, true, true, true, false, false, false, false, true] (by kernel_rfl) (by kernel_rfl) (Below.refl _ _).drew (fun hHeld => ?_)
        simp only [List.filterMap_cons, List.filterMap_nil, List.getElem?_toArray, List.getElem?_cons_zero, List.getElem?_cons_succ]
        refine seqH_take (v := ?_) (Or.inl ⟨by rfl, ?_⟩) ?_
        rotate_left
        · (intro w hSw; go_simp; first | done | with_reducible rfl)
        try simp only [Act.put, List.setIfInBounds_toArray, List.set_cons_zero, List.set_cons_succ]
        refine seqH_take (v := ?_) (Or.inl ⟨by rfl, ?_⟩) ?_
        rotate_left
        · (intro w hSw; go_simp; first | done | with_reducible rfl)
        try simp only [Act.put, List.setIfInBounds_toArray, List.set_cons_zero, List.set_cons_succ]
        refine seqH_take (yieldsIf_slice (by rfl) _ _ _ _ rfl _ (fun w _ => HS2.out w)) ?_
        try simp only [Act.put, List.setIfInBounds_toArray, List.set_cons_zero, List.set_cons_succ]
        refine seqH_take (v := ?_) (Or.inl ⟨by rfl, ?_⟩) ?_
        rotate_left
        · (intro w hSw; go_simp; first | done | with_reducible rfl)
        try simp only [Act.put, List.setIfInBounds_toArray, List.set_cons_zero, List.set_cons_succ]
        refine seqH_take (v := ?_) (Or.inl ⟨by rfl, ?_⟩) ?_
        rotate_left
        · (intro w hSw; go_simp; first | done | with_reducible rfl)
        try simp only [Act.put, List.setIfInBounds_toArray, List.set_cons_zero, List.set_cons_succ]
        refine seqH_take (v := ?_) (Or.inl ⟨by rfl, ?_⟩) ?_
        rotate_left
        · (intro w hSw; go_simp; first | done | with_reducible rfl)
        try simp only [Act.put, List.setIfInBounds_toArray, List.set_cons_zero, List.set_cons_succ]
        refine seqH_take (v := ?_) (Or.inl ⟨by rfl, ?_⟩) ?_
        rotate_left
        · (intro w hSw; go_simp; first | done | with_reducible rfl)
        try simp only [Act.put, List.setIfInBounds_toArray, List.set_cons_zero, List.set_cons_succ]
        refine seqH_take (v := ?_) (Or.inl ⟨by rfl, ?_⟩) ?_
        rotate_left
        · (intro w hSw; go_simp; first | done | with_reducible rfl)
        try simp only [Act.put, List.setIfInBounds_toArray, List.set_cons_zero, List.set_cons_succ]
        refine seqH_take (yieldsIf_slice (by rfl) _ _ _ _ rfl _ (fun w _ => HS1.out w)) ?_
        try simp only [Act.put, List.setIfInBounds_toArray, List.set_cons_zero, List.set_cons_succ]
        refine seqH_go (fun K hK => ?_)
        rw [if_pos (by rfl)]
        go_simp
        refine (HX1.out w.drew (HV.out.below (Below.refl _ _).drew)).mono ?_; rintro e w3 ⟨v3, rfl, hown3, hbc⟩
        try dsimp only
        refine hK.out _ _ (below_keep hHeld hbc) (fun hHeld2 => ?_)
        clear hK K hHeld
        have hHeld := hHeld2
        clear hHeld2
        try simp only [Act.put, List.setIfInBounds_toArray, List.set_cons_zero, List.set_cons_succ]
        refine seqH_go (fun K hK => ?_)
        rw [if_pos (by rfl)]
        go_simp
        refine (HX2.out _ (HV.out.below hHeld)).mono ?_; rintro e w4 ⟨rfl, hbc4⟩; have hbc := hbc4; have hown4 : OwnN w4 w.heap.size v3 ps := World.ownsRow.kept0 hown3 (grown_of_below hbc4)
        try dsimp only
        refine hK.out _ _ (below_keep hHeld hbc) (fun hHeld2 => ?_)
        clear hK K hHeld
        have hHeld := hHeld2
        clear hHeld2
        try simp only [Act.put, List.setIfInBounds_toArray, List.set_cons_zero, List.set_cons_succ]
        refine seqH_go (fun K hK => ?_)
        rw [if_pos (by rfl)]
        refine wp_build_to (.tmp 36) rfl f2 rfl ?_; intro g5 w5 h5 e5 hg5; clear e5; have hS3 : Below w.heap.size w w5 := hHeld.grown hg5 hHeld.size (fun k hk => by cases hk); have hown5 : OwnN w5 w.heap.size v3 ps := World.ownsRow.kept0 hown4 hg5
        refine hK.out _ _ hS3 (fun hHeld2 => ?_)
        clear hK K hHeld hS3
        have hHeld := hHeld2
        clear hHeld2
        try simp only [Act.put, List.setIfInBounds_toArray, List.set_cons_zero, List.set_cons_succ]
        refine seqH_go (fun K hK => ?_)
        rw [if_pos (by rfl)]
        refine wp_append_N (.tmp 32) (.tmp 37) rfl w.heap.size v3 ps [f2] rfl hown5 (nrow_one h5) (by simp; omega) hHeld.size ?_; intro v6 w6 hown6 hg6; have hS3 : Below w.heap.size w w6 := hHeld.grown hg6 hHeld.size (fun k hk => (World.ownsRow.lt hown5 k hk).1)
        refine hK.out _ _ hS3 (fun hHeld2 => ?_)
        clear hK K hHeld hS3
        have hHeld := hHeld2
        clear hHeld2
        try simp only [Act.put, List.setIfInBounds_toArray, List.set_cons_zero, List.set_cons_succ]
        refine seqH_take (v := ?_) (Or.inl ⟨by rfl, ?_⟩) ?_
        rotate_left
        · (intro w hSw; go_simp; first | done | with_reducible rfl)
        try simp only [Act.put, List.setIfInBounds_toArray, List.set_cons_zero, List.set_cons_succ]
        refine seqH_nil (NoPanic.normal ?_)
        have HO6 := Lib.hid hown6
        clear hown3 hown4 hown5 hown6 hg5 hg6 h5 hbc4
        go_wp2
        go_ret
        exact ⟨_, rfl, HO6.out, hHeld⟩

set_option maxHeartbeats 1000000 in
theorem pathc_in (l : List (List (BitVec 8))) (A : Option Addr) (N c i : Nat) (w : World) (hN : N = l.length) (hv : BRows w (.slice A N c) l) (hc : N ≤ c) (hl : N ≤ 100000000) (hf : l.flatten.length ≤ 99999900) (hi : i < N) :
    Calls Try.prog 14 #[.slice A N c, .int .i64 (i : Int)] w fun e w' => ∃ v, e = .returned (.tuple #[v, .bool true]) ∧ OwnN w' w.heap.size v (pathS l i) ∧ Below w.heap.size w w' := by
  have HP := Lib.hid (path_any N l A c i w hN hv hc hl hf hi)
  have hi0 : (0 : Int) ≤ (i : Int) := by omega
  have hi1 : (i : Int) < (N : Int) := by omega
  clear hv hN hc hl hf hi
  go_enter Try.func14, Try.ntmps14
  go_wp2_with (go_at_call 24; refine HP.out.mono ?_; rintro e w2 ⟨v, rfl, hown, hb⟩)
  go_ret2
  exact ⟨_, rfl, hown, hb⟩
set_option maxHeartbeats 1000000 in
theorem pathc_out (A : Option Addr) (N c : Nat) (i : Int) (w : World) (hi : i < 0 ∨ (N : Int) ≤ i) :
    Calls Try.prog 14 #[.slice A N c, .int .i64 i] w fun e w' => e = .returned (.tuple #[.slice none 0 0, .bool false]) ∧ Below w.heap.size w w' := by
  by_cases h0 : i < 0
  · clear hi
    go_enter Try.func14, Try.ntmps14
    go_wp2_with fail
    go_ret2
    exact ⟨rfl, Below.refl _ _⟩
  · have h1 : (N : Int) ≤ i := by omega
    clear hi
    go_enter Try.func14, Try.ntmps14
    go_wp2_with fail
    go_ret2
    exact ⟨rfl, Below.refl _ _⟩

end Go.Proofs.Ytnnllficjljjkaa
