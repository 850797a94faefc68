/-
  The walk of Root (package merkle), by induction on the lists.
-/
import Derived.Test.YtnnllficjljjkaaMerk
namespace Go.Proofs.Ytnnllficjljjkaa
open Go.RowKit
set_option linter.unusedVariables false
set_option linter.unusedSimpArgs false

theorem elem_S : Try.prog.underlying 30 = some (.slice (Try.prog.elem 30)) := by kernel_rfl
theorem size_S (w : World) : (sizeOf (Try.prog.elem 30)).run Try.prog w = .ok 1 w := by kernel_rfl
theorem slice_loS {A : Option Addr} {n c i : Nat} (h1 : i ≤ n) (w : World) : (Instr.sliceAt 30 (.slice A n c) (some (.int .i64 i)) none none).run Try.prog w = .ok (.slice (cutA A c i) (n - i) (c - i)) w := by
  rw [run_sliceAt_slice _ _ _ _ _ _ elem_S, run_slice_l _ _ _ _ _ elem_S _ _ (by omega) (by omega), size_S]
  rfl
theorem slice_hiS {A : Option Addr} {n c k : Nat} (h2 : k ≤ c) (w : World) : (Instr.sliceAt 30 (.slice A n c) none (some (.int .i64 k)) none).run Try.prog w = .ok (.slice A k c) w := by
  rw [run_sliceAt_slice _ _ _ _ _ _ elem_S, run_slice_h _ _ _ _ _ elem_S _ _ (by omega) (by omega), size_S]
  have := cutA_zero A c
  unfold cutA at this
  show Result.ok (Value.slice (if c = 0 then A else A.map (·.add (0 * 1))) ((k : Int).toNat - 0) (c - 0)) w = _
  rw [this]
  rfl
theorem BRows.cut {w : World} {A : Option Addr} {n c : Nat} {l : List (List (BitVec 8))} (h : BRows w (.slice A n c) l) {i k : Nat} (h1 : i ≤ k) (h2 : k ≤ l.length) (hc : l.length ≤ c) : BRows w (.slice (cutA A c i) (k - i) (c - i)) ((l.drop i).take (k - i)) := by
  obtain ⟨a, c', e, hn, hp⟩ := h
  cases e
  have hl : ((l.drop i).take (k - i)).length = k - i := by rw [List.length_take, List.length_drop]; omega
  refine ⟨cutA A c i, c - i, by rw [hl], fun hz => ?_, fun h0 => ?_⟩
  · cases A with
    | none => rw [hn rfl]; omega
    | some a => unfold cutA at hz; split at hz <;> cases hz
  · rw [hl] at h0
    obtain ⟨b, off, rfl, hb, hcell⟩ := hp (by omega)
    refine ⟨b, off + i, ?_, hb, fun j hj => ?_⟩
    · unfold cutA
      rw [if_neg (by omega), Nat.mul_one]
      show some ((⟨b, off, none⟩ : Addr).add i) = _
      rw [add_spot rfl]
    · rw [hl] at hj
      obtain ⟨vi, hv, hr⟩ := hcell (i + j) (by omega)
      refine ⟨vi, by rw [Nat.add_assoc]; exact hv, ?_⟩
      simpa using hr
theorem BRows.hi {w : World} {A : Option Addr} {n c : Nat} {l : List (List (BitVec 8))} (h : BRows w (.slice A n c) l) {k : Nat} (h2 : k ≤ l.length) (hc : l.length ≤ c) : BRows w (.slice A k c) (l.take k) := by
  have := h.cut (Nat.zero_le k) h2 hc
  simpa [cutA_zero] using this
theorem BRows.lo {w : World} {A : Option Addr} {n c : Nat} {l : List (List (BitVec 8))} (h : BRows w (.slice A n c) l) {i : Nat} (h1 : i ≤ l.length) (hc : l.length ≤ c) : BRows w (.slice (cutA A c i) (n - i) (c - i)) (l.drop i) := by
  have hn : n = l.length := by obtain ⟨a, c', e, _⟩ := h; cases e; rfl
  have := h.cut h1 (Nat.le_refl _) hc
  rw [hn]
  rwa [List.take_of_length_le (by simp)] at this
theorem flat_take (l : List (List (BitVec 8))) (k : Nat) : (l.take k).flatten.length ≤ l.flatten.length ∧ (l.drop k).flatten.length ≤ l.flatten.length := by
  have h := congrArg (fun x => x.flatten.length) (List.take_append_drop k l)
  simp only [List.flatten_append, List.length_append] at h
  omega
theorem flat_get (l : List (List (BitVec 8))) (i : Nat) (h : i < l.length) : l[i].length ≤ l.flatten.length := by
  have h1 := congrArg (fun x => x.flatten.length) (List.take_append_drop i l)
  rw [List.drop_eq_getElem_cons h] at h1
  simp only [List.flatten_append, List.flatten_cons, List.length_append] at h1
  omega
theorem BRows.at {w : World} {A : Option Addr} {n c : Nat} {l : List (List (BitVec 8))} (h : BRows w (.slice A n c) l) {i : Nat} (hi : i < l.length) : ∃ b off a1 c1, A = some ⟨b, off, none⟩ ∧ b < w.heap.size ∧ w.cell? ⟨b, off + i, none⟩ = some (.slice a1 l[i].length c1) ∧ BRow w (.slice a1 l[i].length c1) l[i] := by
  obtain ⟨a, c', e, hn, hp⟩ := h
  cases e
  obtain ⟨b, off, rfl, hb, hcell⟩ := hp (by omega)
  obtain ⟨vi, hv, hr⟩ := hcell i hi
  obtain ⟨a1, c1, e⟩ := hr.shape
  rw [e] at hv hr
  exact ⟨b, off, a1, c1, rfl, hb, hv, hr⟩

set_option maxRecDepth 100000 in
set_option maxHeartbeats 2000000 in
theorem root_any : ∀ (N : Nat) (l : List (List (BitVec 8))) (A : Option Addr) (c : Nat) (w : World), N = l.length → BRows w (.slice A N c) l → N ≤ c → N ≤ 100000000 → l.flatten.length ≤ 99999900 →
    Calls Try.prog 13 #[.slice A N c] w fun e w' => e = .returned (.agg (rowB 32 (rootS l))) ∧ Below w.heap.size w w' := by
  intro N
  induction N using Nat.strongRecOn with
  | _ N ih =>
    intro l A c w hN hv hc hl hf
    obtain ⟨h, hh⟩ : ∃ h, h = rootS l := ⟨_, rfl⟩
    rw [← hh]
    have HH := Lib.hid hh
    have HZ := Lib.hid (show (Try.prog.info? 25).map (·.size) = some (rowB 32 h).size by rw [size32, rowB_size])
    have HB1 := Lib.hid (show Below w.heap.size w (w.alloc (.cells (row 32 fun _ => .int .u8 0) 25)) from below_allocS (Below.refl _ _) _)
    have HR1 := Lib.hid (show (w.alloc (.cells (row 32 fun _ => .int .u8 0) 25)).heap[w.heap.size]? = some (.cells (row 32 fun _ => .int .u8 0) 25 (0, 0)) from heap_alloc_new _ _)
    have HV1 := Lib.hid (hv.below HB1.out)
    have HN := Lib.hid hN
    have HC := Lib.hid hc
    have HL := Lib.hid hl
    have HF := Lib.hid hf
    have IH := Lib.hid ih
    clear hv hc hf hh ih hN
    by_cases h0 : N = 0
    · subst h0
      have hs := Lib.hid (show ∀ w, Calls Try.prog 9 #[.slice none 0 0] w fun e w' => e = .returned (.agg (rowB 32 h)) ∧ Below w.heap.size w w' from fun w => by
        have := sum_any (.slice none 0 0) [] w ⟨none, 0, rfl, fun _ => rfl, fun h => absurd h (by simp)⟩ (by simp) (by simp)
        rw [HH.out, show l = [] from List.eq_nil_of_length_eq_zero HN.out.symm, rootS_nil]
        exact this)
      go_enter Try.func13, Try.ntmps13
      go_wp2_with (first
        | (with_reducible refine wpList_alloc_row rfl 25 rfl 32 _ info32 ?_; generalize w.alloc (.cells (row 32 fun _ => .int .u8 0) 25) = w1 at *)
        | (go_at_call 9; refine (hs.out _).mono ?_; rintro e w2 ⟨rfl, hb2⟩; have HB2 := Lib.hid (below_keep HB1.out hb2); have HR2 := Lib.hid ((hb2.block _ (Array.getElem?_eq_some_iff.1 HR1.out).1).trans HR1.out))
        | ((with_reducible show wpList _ _ _ (⟨_, .store 25 _ _, _, _, _, _⟩ :: _) _ _); refine wpList_store_rowTo rfl 25 _ _ rfl rfl w.heap.size (rowB 32 h) rfl rfl 25 _ HR2.out HZ.out (by rw [row_size, rowB_size]) (rowB_oneCell _ _) ?_))
      refine bodyPost_ret (results_cell_row rfl _ _ w.heap.size 25 (rowB 32 h) (0, 0) _ rfl (heap_setRow_at HR2.out) Try.underlying25 rfl HZ.out) rfl ?_
      exact ⟨rfl, below_setRow HB2.out (Nat.le_refl _) _⟩
    · by_cases h1 : N = 1
      · subst h1
        obtain ⟨m, hm⟩ : ∃ m, l = [m] := by
          match l, HN.out with
          | [x], _ => exact ⟨x, rfl⟩
        subst hm
        obtain ⟨b, off, a1, c1, rfl, hb, hcell, hrow⟩ := HV1.out.at (i := 0) (by simp)
        simp only [List.getElem_cons_zero, Nat.add_zero] at hcell hrow
        have hlen : m.length ≤ 999999000 := by have := HF.out; simp at this; omega
        have hroot : h = leafS m := by rw [HH.out]; exact rootS_one _
        have hs := Lib.hid (show ∀ w, BRow w (.slice a1 m.length c1) m → Calls Try.prog 21 #[.slice a1 m.length c1] w fun e w' => e = .returned (.agg (rowB 32 h)) ∧ Below w.heap.size w w' from fun w hr => by
          rw [hroot]; exact leaf_any _ m w hr hlen)
        have HROW := Lib.hid hrow
        clear hlen hroot hrow hb
        go_enter Try.func13, Try.ntmps13
        go_wp2_with (first
          | (with_reducible refine wpList_alloc_row rfl 25 rfl 32 _ info32 ?_; generalize w.alloc (.cells (row 32 fun _ => .int .u8 0) 25) = w1 at *)
          | (go_at_call 21; refine (hs.out _ HROW.out).mono ?_; rintro e w2 ⟨rfl, hb2⟩; have HB2 := Lib.hid (below_keep HB1.out hb2); have HR2 := Lib.hid ((hb2.block _ (Array.getElem?_eq_some_iff.1 HR1.out).1).trans HR1.out))
          | ((with_reducible show wpList _ _ _ (⟨_, .store 25 _ _, _, _, _, _⟩ :: _) _ _); refine wpList_store_rowTo rfl 25 _ _ rfl rfl w.heap.size (rowB 32 h) rfl rfl 25 _ HR2.out HZ.out (by rw [row_size, rowB_size]) (rowB_oneCell _ _) ?_))
        refine bodyPost_ret (results_cell_row rfl _ _ w.heap.size 25 (rowB 32 h) (0, 0) _ rfl (heap_setRow_at HR2.out) Try.underlying25 rfl HZ.out) rfl ?_
        exact ⟨rfl, below_setRow HB2.out (Nat.le_refl _) _⟩
      · have h2 : 2 ≤ N := by omega
        have hk1 := cutN_lt h2
        have hk0 := cutN_pos N
        have hroot : h = nodeS (rootS (l.take (cutN N))) (rootS (l.drop (cutN N))) := by rw [HH.out, HN.out]; exact rootS_two (by rw [← HN.out]; exact h2)
        have HCU := Lib.hid (show ∀ w, Calls Try.prog 22 #[.int .i64 (N : Int)] w fun e w' => e = .returned (.int .i64 (cutN N : Int)) ∧ w = w' from fun w => cut_any N w h2 (by omega))
        generalize cutN N = k at *
        obtain ⟨f1, hf1⟩ : ∃ f, f = rootS (l.take k) := ⟨_, rfl⟩
        obtain ⟨f2, hf2⟩ : ∃ f, f = rootS (l.drop k) := ⟨_, rfl⟩
        rw [← hf1, ← hf2] at hroot
        have hft := flat_take l k
        have HX1 := Lib.hid (show ∀ w, BRows w (.slice A N c) l → Calls Try.prog 13 #[.slice A k c] w fun e w' => e = .returned (.agg (rowB 32 f1)) ∧ Below w.heap.size w w' from fun w hv => by
          rw [hf1]; exact IH.out k hk1 (l.take k) A c w (by rw [List.length_take, ← HN.out]; omega) (hv.hi (by rw [← HN.out]; omega) (by rw [← HN.out]; exact HC.out)) (by have := HC.out; omega) (by omega) (by have := HF.out; omega))
        have HX2 := Lib.hid (show ∀ w, BRows w (.slice A N c) l → Calls Try.prog 13 #[.slice (cutA A c k) (N - k) (c - k)] w fun e w' => e = .returned (.agg (rowB 32 f2)) ∧ Below w.heap.size w w' from fun w hv => by
          rw [hf2]; exact IH.out (N - k) (by omega) (l.drop k) (cutA A c k) (c - k) w (by rw [List.length_drop, ← HN.out]) (hv.lo (by rw [← HN.out]; omega) (by rw [← HN.out]; exact HC.out)) (by have := HC.out; omega) (by omega) (by have := HF.out; omega))
        have HX3 := Lib.hid (show ∀ w, Calls Try.prog 23 #[.agg (rowB 32 f1), .agg (rowB 32 f2)] w fun e w' => e = .returned (.agg (rowB 32 h)) ∧ Below w.heap.size w w' from fun w => by rw [hroot]; exact node_any f1 f2 w)
        have HS1 := Lib.hid (slice_hiS (A := A) (n := N) (c := c) (k := k) (by have := HC.out; omega))
        have HS2 := Lib.hid (slice_loS (A := A) (n := N) (c := c) (i := k) (by omega))
        clear hf1 hf2 hroot hft HH
        go_enter Try.func13, Try.ntmps13
        go_wp2_with (first
          | (with_reducible refine wpList_alloc_row rfl 25 rfl 32 _ info32 ?_; generalize w.alloc (.cells (row 32 fun _ => .int .u8 0) 25) = w1 at *)
          | (go_at_call 22; refine (HCU.out _).mono ?_; rintro e w2 ⟨rfl, rfl⟩))
        have hlt := (Array.getElem?_eq_some_iff.1 HR1.out).1
        have hbel : ∀ w', w1.grownBy w' none → Below w1.heap.size w1 w' := fun w' hg => (Below.refl _ _).grown hg (Nat.le_refl _) (fun k hk => by cases hk)
        refine wp_region_plan (S := fun w' => w1.grownBy w' (some w.heap.size)) [0, 1, 2, 4, 5, 6, 3, 7, 8, 9] [true, true, true, true, true, true, false, false, false, false] (by kernel_rfl) (by kernel_rfl) (grown_drew (grown_refl _ _)) (fun _ => ?_)
        simp only [List.filterMap_cons, List.filterMap_nil, List.getElem?_toArray, List.getElem?_cons_zero, List.getElem?_cons_succ]
        refine seqH_take (v := ?_) (Or.inl ⟨by rfl, ?_⟩) ?_
        rotate_left
        · (intro w hSw; go_simp; first | done | with_reducible rfl)
        try simp only [Act.put, List.setIfInBounds_toArray, List.set_cons_zero, List.set_cons_succ]
        refine seqH_take (v := ?_) (Or.inl ⟨by rfl, ?_⟩) ?_
        rotate_left
        · (intro w hSw; go_simp; first | done | with_reducible rfl)
        try simp only [Act.put, List.setIfInBounds_toArray, List.set_cons_zero, List.set_cons_succ]
        refine seqH_take (yieldsIf_slice (by rfl) _ _ _ _ rfl _ (fun w _ => HS1.out w)) ?_
        try simp only [Act.put, List.setIfInBounds_toArray, List.set_cons_zero, List.set_cons_succ]
        refine seqH_take (v := ?_) (Or.inl ⟨by rfl, ?_⟩) ?_
        rotate_left
        · (intro w hSw; go_simp; first | done | with_reducible rfl)
        try simp only [Act.put, List.setIfInBounds_toArray, List.set_cons_zero, List.set_cons_succ]
        refine seqH_take (v := ?_) (Or.inl ⟨by rfl, ?_⟩) ?_
        rotate_left
        · (intro w hSw; go_simp; first | done | with_reducible rfl)
        try simp only [Act.put, List.setIfInBounds_toArray, List.set_cons_zero, List.set_cons_succ]
        refine seqH_take (yieldsIf_slice (by rfl) _ _ _ _ rfl _ (fun w _ => HS2.out w)) ?_
        try simp only [Act.put, List.setIfInBounds_toArray, List.set_cons_zero, List.set_cons_succ]
        refine seqH_go (fun K hK => ?_)
        rw [if_pos (by rfl)]
        go_simp
        refine (HX1.out w1.drew (HV1.out.below (Below.refl _ _).drew)).mono ?_; rintro e w3 ⟨rfl, hb3⟩; have hg3 : w1.grownBy w3 none := grown_trans (grown_drew (grown_refl _ _)) (grown_of_below hb3)
        try dsimp only
        refine hK.out _ _ (grown_up hg3) (fun _ => ?_)
        clear hK K
        try simp only [Act.put, List.setIfInBounds_toArray, List.set_cons_zero, List.set_cons_succ]
        refine seqH_go (fun K hK => ?_)
        rw [if_pos (by rfl)]
        go_simp
        refine (HX2.out _ (HV1.out.below (hbel _ hg3))).mono ?_; rintro e w4 ⟨rfl, hb4⟩; have hg4 : w1.grownBy w4 none := grown_trans hg3 (grown_of_below hb4)
        try dsimp only
        refine hK.out _ _ (grown_up hg4) (fun _ => ?_)
        clear hK K
        try simp only [Act.put, List.setIfInBounds_toArray, List.set_cons_zero, List.set_cons_succ]
        refine seqH_go (fun K hK => ?_)
        rw [if_pos (by rfl)]
        go_simp
        refine (HX3.out _).mono ?_; rintro e w5 ⟨rfl, hb5⟩; have hg5 : w1.grownBy w5 none := grown_trans hg4 (grown_of_below hb5)
        try dsimp only
        refine hK.out _ _ (grown_up hg5) (fun _ => ?_)
        clear hK K
        try simp only [Act.put, List.setIfInBounds_toArray, List.set_cons_zero, List.set_cons_succ]
        refine seqH_go (fun K hK => ?_)
        rw [if_pos (by rfl)]
        refine wpm_store (.tmp 2) (.tmp 26) rfl w.heap.size h rfl rfl 25 _ ((hg5.block _ hlt nofun).trans HR1.out) ?_; intro w6 h6 hg6
        refine hK.out _ _ (grown_trans (grown_up hg5) hg6) (fun _ => ?_)
        clear hK K
        try simp only [Act.put, List.setIfInBounds_toArray, List.set_cons_zero, List.set_cons_succ]
        refine seqH_nil (NoPanic.normal ?_)
        have HB6 := Lib.hid (HB1.out.grown (grown_trans (grown_up hg5) hg6) HB1.out.size (fun k hk => by cases hk; exact Nat.le_refl _))
        have HG6 := Lib.hid h6
        clear hg3 hg4 hg5 hg6 h6 hb3 hb4 hb5 hbel
        go_wp2
        refine bodyPost_ret (results_cell_row rfl _ _ w.heap.size 25 (rowB 32 h) (0, 0) _ rfl HG6.out Try.underlying25 rfl HZ.out) rfl ?_
        exact ⟨rfl, HB6.out⟩

end Go.Proofs.Ytnnllficjljjkaa
