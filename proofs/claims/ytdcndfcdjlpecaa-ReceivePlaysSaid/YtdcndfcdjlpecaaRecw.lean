/-
  The walks of Count, Missing and Full of a set of blocks.
-/
import Derived.Test.YtdcndfcdjlpecaaRecv
import Derived.Test.YtdcndfcdjlpecaaInts
namespace Go.Proofs.Ytdcndfcdjlpecaa
open Go.RowKit
set_option linter.unusedVariables false
set_option linter.unusedSimpArgs false

/-- How many bits the first m words have. -/
def cntW (x : Nat → BitVec 64) : Nat → Nat
  | 0 => 0
  | m + 1 => cntW x m + pop (x m)
theorem cntW_bits (x : Nat → BitVec 64) : ∀ m, cntW x m = cntB (bitv x) (64 * m)
  | 0 => rfl
  | m + 1 => by
    rw [show 64 * (m + 1) = 64 * m + 64 by omega, cntB_add]
    simp only [cntW]
    rw [cntW_bits x m]
    congr 1
    unfold pop
    refine cntB_congr 64 fun i hi => ?_
    unfold bitv
    rw [show (64 * m + i) / 64 = m by omega, show (64 * m + i) % 64 = i by omega]
    rfl
theorem cntW_le (x : Nat → BitVec 64) (m : Nat) : cntW x m ≤ 64 * m := by rw [cntW_bits]; exact cntB_le _ _

theorem SetAt.below {w w' : World} {g gw n : Nat} {x : Nat → BitVec 64} (h : SetAt w g gw n x) (hb : Below w.heap.size w w') : SetAt w' g gw n x :=
  ⟨(hb.block _ (Array.getElem?_eq_some_iff.1 h.hs).1).trans h.hs, (hb.block _ (Array.getElem?_eq_some_iff.1 h.hw).1).trans h.hw, h.ne⟩
theorem SetAt.grown {w w' : World} {g gw n b : Nat} {x : Nat → BitVec 64} (h : SetAt w g gw n x) (hg : w.grownBy w' (some b)) (h1 : g ≠ b) (h2 : gw ≠ b) : SetAt w' g gw n x :=
  ⟨(hg.block _ (Array.getElem?_eq_some_iff.1 h.hs).1 (by intro e; injection e with e; exact h1 e)).trans h.hs, (hg.block _ (Array.getElem?_eq_some_iff.1 h.hw).1 (by intro e; injection e with e; exact h2 e)).trans h.hw, h.ne⟩

set_option maxRecDepth 100000 in
set_option maxHeartbeats 1000000 in
theorem count_any (g gw n : Nat) (x : Nat → BitVec 64) (w : World) (hS : SetAt w g gw n x) (hn : n ≤ 4096) :
    Calls Try.prog 20 #[.pointer (some ⟨g, 0, none⟩)] w fun e w' => e = .returned (.int .i64 (cntW x (wds n) : Int)) ∧ w = w' := by
  have HS := Lib.hid hS
  have hc1 := hS.c1
  have hwd : wds n ≤ 64 := by unfold wds; omega
  have HWD := Lib.hid hwd
  obtain ⟨m, hm⟩ : ∃ m, m = wds n := ⟨_, rfl⟩
  have HM := Lib.hid hm
  rw [← hm] at hc1 hwd ⊢
  clear hS hm
  go_enter Try.func20, Try.ntmps20
  go_wp2_with fail
  go_loopw [3, 11] (fun s i wr => ∃ k : Nat, k ≤ m ∧ i = .int .i64 k ∧ s = .int .i64 (cntW x k : Int) ∧ wr = w) (fun _ i _ => m - (intOf i).toNat)
  case atStart => exact ⟨0, Nat.zero_le _, rfl, rfl, rfl⟩
  case round =>
    obtain ⟨k, hk, rfl, rfl, rfl⟩ := hrel
    by_cases hlt : k < m
    · have hk0 : (0 : Int) ≤ (k : Int) := by omega
      have hk1 : (k : Int) < (m : Int) := by omega
      have hk2 : (k : Int) < 64 := by omega
      have hcw : wr.cell? ⟨gw, k, none⟩ = some (.int .u64 (Q (x k))) := cell_rowQ HS.out.hw (by rw [← HM.out]; exact hlt)
      have hle := cntW_le x k
      have hpl : pop (x k) ≤ 64 := cntB_le _ _
      have hs : cntW x (k + 1) = cntW x k + pop (x k) := rfl
      have HST := Lib.hid hs
      clear hs
      have HP := Lib.hid (ones_any (x k) wr)
      have hsum : (cntW x k : Int) + (pop (x k) : Int) < 9000 := by omega
      generalize cntW x k = c at *
      generalize pop (x k) = p at *
      go_wp2_with (go_at_call 36; refine HP.out.mono ?_; rintro e w2 ⟨rfl, rfl⟩)
      go_roundw
      case rel => exact ⟨k + 1, by omega, by go_num, by rw [HST.out, Int.natCast_add], trivial⟩
      case measure => simp [intOf]; omega
    · obtain rfl : k = m := by omega
      go_wp2_with fail
      go_ret
      exact ⟨rfl, rfl⟩

/-! ### the first that is not there -/
theorem firstF_spec (n : Nat) (b : Nat → Bool) (i : Nat) : i ≤ firstF n b i ∧ (∀ j, i ≤ j → j < firstF n b i → j < n ∧ b j = true) ∧ ¬ (firstF n b i < n ∧ b (firstF n b i) = true) := by
  induction hd : n - i using Nat.strongRecOn generalizing i with
  | _ d ih =>
    rw [firstF.eq_def]
    by_cases h : i < n ∧ b i = true
    · rw [dif_pos h]
      obtain ⟨h1, h2, h3⟩ := ih (n - (i + 1)) (by omega) (i + 1) rfl
      refine ⟨by omega, fun j hj hlt => ?_, h3⟩
      by_cases e : j = i
      · subst e; exact h
      · exact h2 j (by omega) hlt
    · rw [dif_neg h]
      exact ⟨Nat.le_refl _, fun j h1 h2 => by omega, h⟩
theorem firstF_le {n : Nat} {b : Nat → Bool} {i : Nat} (h : i ≤ n) : firstF n b i ≤ n := by
  obtain ⟨h1, h2, _⟩ := firstF_spec n b i
  rcases Nat.lt_or_ge n (firstF n b i) with h3 | h3
  · exact absurd (h2 n h h3).1 (by omega)
  · exact h3
/-- Those that are not there. -/
def missF (n : Nat) (b : Nat → Bool) : List Int := List.map (fun i : Nat => (i : Int)) ((List.range n).filter fun i => !b i)
theorem missF_step {k : Nat} {b : Nat → Bool} (h : b k = false) : missF (k + 1) b = missF k b ++ [(k : Int)] := by
  unfold missF
  rw [List.range_succ, List.filter_append, List.map_append]
  simp [h]
theorem missF_skip {b : Nat → Bool} {i : Nat} : ∀ {k}, i ≤ k → (∀ j, i ≤ j → j < k → b j = true) → missF k b = missF i b
  | 0, h, _ => by obtain rfl : i = 0 := by omega
                  rfl
  | k + 1, h, hb => by
    by_cases e : i = k + 1
    · subst e; rfl
    · have h1 : b k = true := hb k (by omega) (by omega)
      have h2 : missF (k + 1) b = missF k b := by
        unfold missF
        rw [List.range_succ, List.filter_append, List.map_append]
        simp [h1]
      rw [h2]
      exact missF_skip (by omega) fun j hj hk => hb j hj (by omega)
theorem missF_length (b : Nat → Bool) : ∀ n, (missF n b).length + cntB b n = n
  | 0 => by simp [missF, cntB]
  | n + 1 => by
    have ih := missF_length b n
    unfold missF at ih ⊢
    rw [List.range_succ, List.filter_append, List.map_append, List.length_append]
    simp only [cntB]
    cases h : b n <;> simp [h] at ih ⊢ <;> omega

set_option maxRecDepth 100000 in
set_option maxHeartbeats 1000000 in
theorem missing_any (g gw n : Nat) (x : Nat → BitVec 64) (w : World) (hS : SetAt w g gw n x) (hn : n ≤ 4096) :
    Calls Try.prog 28 #[.pointer (some ⟨g, 0, none⟩)] w fun e w' => ∃ v, e = .returned v ∧ IRow w' v (missF n (bitv x)) ∧ Below w.heap.size w w' := by
  have HS := Lib.hid hS
  have HF := Lib.hid (fun i w (h : SetAt w g gw n x) hi => first_any g gw n i x w h hn hi)
  clear hS
  go_enter Try.func28, Try.ntmps28
  go_wp2_with (go_at_call 37; refine (HF.out 0 _ HS.out (by decide)).mono ?_; rintro e w2 ⟨rfl, rfl⟩)
  have h0 := firstF_spec n (bitv x) 0
  have hle := firstF_le (n := n) (b := bitv x) (Nat.zero_le n)
  have hm0 : missF (firstF n (bitv x) 0) (bitv x) = [] := (missF_skip (Nat.zero_le _) fun j h1 h2 => (h0.2.1 j h1 h2).2).trans rfl
  go_loopw [3, 4] (fun o i wr => ∃ k : Nat, k ≤ n ∧ ¬ (k < n ∧ bitv x k = true) ∧ i = .int .i64 k ∧ OwnI wr w.heap.size o (missF k (bitv x)) ∧ Below w.heap.size w wr) (fun _ i _ => n - (intOf i).toNat)
  case atStart => exact ⟨firstF n (bitv x) 0, hle, h0.2.2, rfl, by rw [hm0]; exact World.ownsRow_nil _ _ _ _, Below.refl _ _⟩
  case round =>
    obtain ⟨k, hk, hnb, rfl, ho, hb⟩ := hrel
    clear h0 hle hm0
    have HB := Lib.hid hb
    have HO := Lib.hid ho
    have HSR := Lib.hid (HS.out.below hb)
    have hc0 := HSR.out.c0
    obtain ⟨ao, co, eo⟩ := ho.shape
    subst eo
    clear ho hb
    have hk0 : (0 : Int) ≤ (k : Int) := by omega
    by_cases hlt : k < n
    · have hbk : bitv x k = false := by simpa [hlt] using hnb
      have hk1 : (k : Int) < (n : Int) := by omega
      have hk2 : (k : Int) < 4096 := by omega
      have HST := Lib.hid (missF_step hbk)
      have hml : (missF k (bitv x)).length ≤ k := by have := missF_length (bitv x) k; omega
      have HML := Lib.hid hml
      clear hnb hbk hml
      obtain ⟨l, hl⟩ : ∃ l, l = missF k (bitv x) := ⟨_, rfl⟩
      rw [← hl] at HST HML HO ⊢
      clear hl
      have HI := Lib.hid (irow_one (c := 1) (t := 3) (fr := (0, 0)) (k : Int) (heap_alloc_new wr (.cells #[.int .i64 (k : Int)] 3)))
      have HO1 := Lib.hid (show OwnI (wr.alloc (.cells #[.int .i64 (k : Int)] 3)) w.heap.size _ l from World.ownsRow.kept0 HO.out (grown_alloc (grown_refl _ _) _))
      have HB1 := Lib.hid (show Below w.heap.size w (wr.alloc (.cells #[.int .i64 (k : Int)] 3)) from HB.out.alloc HB.out.size _)
      go_wp2_with (first
        | (at_builtin; refine wpList_append_I rfl (.tmp 17) (.tmp 19) rfl w.heap.size _ l [(k : Int)] rfl HO1.out HI.out (by have := HML.out; simp; omega) HB1.out.size ?_; intro v4 w4 hown4 hg4; rw [← HST.out] at hown4; have HO4 := Lib.hid hown4; have HB4 := Lib.hid (HB1.out.grown hg4 HB1.out.size (fun b hb => (World.ownsRow.lt HO1.out b hb).1)); have HS4 := Lib.hid (HS.out.below HB4.out); clear hown4 hg4)
        | (go_at_call 37; refine (HF.out (k + 1) _ HS4.out (by omega)).mono ?_; rintro e w5 ⟨rfl, rfl⟩))
      have h0 := firstF_spec n (bitv x) (k + 1)
      have hle := firstF_le (n := n) (b := bitv x) (i := k + 1) (by omega)
      have hm0 : missF (firstF n (bitv x) (k + 1)) (bitv x) = missF (k + 1) (bitv x) := missF_skip h0.1 fun j h1 h2 => (h0.2.1 j h1 h2).2
      go_roundw
      case rel => exact ⟨firstF n (bitv x) (k + 1), hle, h0.2.2, rfl, by rw [hm0]; exact HO4.out, HB4.out⟩
      case measure => have := h0.1; simp [intOf]; omega
    · obtain rfl : k = n := by omega
      go_wp2_with fail
      go_ret
      exact ⟨_, rfl, HO.out.irow, HB.out⟩

theorem firstF_full (n : Nat) (b : Nat → Bool) : firstF n b 0 = n ↔ missF n b = [] := by
  obtain ⟨h1, h2, h3⟩ := firstF_spec n b 0
  have hle := firstF_le (n := n) (b := b) (Nat.zero_le n)
  constructor
  · intro h
    rw [h] at h2
    exact (missF_skip (Nat.zero_le _) fun j h1 hj => (h2 j h1 hj).2).trans rfl
  · intro h
    rcases Nat.lt_or_ge (firstF n b 0) n with hlt | hge
    · have hb : b (firstF n b 0) = false := by simpa [hlt] using h3
      have hm : ((firstF n b 0 : Nat) : Int) ∈ missF n b := List.mem_map.2 ⟨_, List.mem_filter.2 ⟨List.mem_range.2 hlt, by simp [hb]⟩, rfl⟩
      rw [h] at hm
      exact absurd hm (by simp)
    · omega

set_option maxRecDepth 100000 in
set_option maxHeartbeats 1000000 in
theorem full_any (g gw n : Nat) (x : Nat → BitVec 64) (w : World) (hS : SetAt w g gw n x) (hn : n ≤ 4096) :
    Calls Try.prog 21 #[.pointer (some ⟨g, 0, none⟩)] w fun e w' => e = .returned (.bool (decide (missF n (bitv x) = []))) ∧ Below w.heap.size w w' := by
  have HS := Lib.hid hS
  have HF := Lib.hid (fun w (h : SetAt w g gw n x) => first_any g gw n 0 x w h hn (by decide))
  have HD := Lib.hid (show ((firstF n (bitv x) 0 : Int) == (n : Int)) = decide (missF n (bitv x) = []) from by
    have := firstF_full n (bitv x)
    by_cases h : missF n (bitv x) = []
    · rw [decide_eq_true h, this.2 h]; simp
    · rw [decide_eq_false h]
      have h2 : firstF n (bitv x) 0 ≠ n := fun e => h (this.1 e)
      exact beq_eq_false_iff_ne.2 (by omega))
  have hc0 : ∀ w', Below w.heap.size w w' → w'.cell? ⟨g, 0, none⟩ = some (.int .i64 (n : Int)) := fun w' hb => (hS.below hb).c0
  clear hS
  go_enter Try.func21, Try.ntmps21
  go_wp2
  refine wp_region_plan (S := fun w' => Below w.heap.size w w') [0, 2, 3, 4, 5, 1, 6, 7] [true, true, true, true, true, false, true, true] (by kernel_rfl) (by kernel_rfl) (Below.refl _ _).drew (fun hHeld => ?_)
  simp only [List.filterMap_cons, List.filterMap_nil, List.getElem?_toArray, List.getElem?_cons_zero, List.getElem?_cons_succ]
  refine seqH_take (v := ?_) (Or.inl ⟨by rfl, ?_⟩) ?_
  rotate_left
  · (intro w hSw; go_simp; first | done | with_reducible rfl)
  try simp only [Act.put, List.setIfInBounds_toArray, List.set_cons_zero, List.set_cons_succ]
  refine seqH_take (v := ?_) (Or.inl ⟨by rfl, ?_⟩) ?_
  rotate_left
  · (intro w hSw; go_simp; first | done | with_reducible rfl)
  try simp only [Act.put, List.setIfInBounds_toArray, List.set_cons_zero, List.set_cons_succ]
  refine seqH_take (v := ?_) (Or.inl ⟨by rfl, ?_⟩) ?_
  rotate_left
  · (intro w hSw; go_simp; first | done | with_reducible rfl)
  try simp only [Act.put, List.setIfInBounds_toArray, List.set_cons_zero, List.set_cons_succ]
  refine seqH_take (v := ?_) (Or.inl ⟨by rfl, ?_⟩) ?_
  rotate_left
  · (intro w hSw; go_simp; first | done | with_reducible rfl)
  try simp only [Act.put, List.setIfInBounds_toArray, List.set_cons_zero, List.set_cons_succ]
  refine seqH_take (v := ?_) (Or.inl ⟨by rfl, ?_⟩) ?_
  rotate_left
  · (intro w hSw; go_simp; first | done | with_reducible rfl)
  try simp only [Act.put, List.setIfInBounds_toArray, List.set_cons_zero, List.set_cons_succ]
  refine seqH_go (fun K hK => ?_)
  rw [if_pos (by rfl)]
  go_simp
  refine (HF.out _ (HS.out.below hHeld)).mono ?_; rintro e w4 ⟨rfl, rfl⟩
  try dsimp only
  refine hK.out _ _ hHeld (fun hHeld2 => ?_)
  clear hK K hHeld
  have hHeld := hHeld2
  clear hHeld2
  try simp only [Act.put, List.setIfInBounds_toArray, List.set_cons_zero, List.set_cons_succ]
  refine seqH_take (v := ?_) (Or.inl ⟨by rfl, ?_⟩) ?_
  rotate_left
  · (intro w hSw; go_simp; first | done | with_reducible rfl)
  try simp only [Act.put, List.setIfInBounds_toArray, List.set_cons_zero, List.set_cons_succ]
  refine seqH_take (v := ?_) (Or.inl ⟨by rfl, ?_⟩) ?_
  rotate_left
  · (intro w hSw; go_simp; first | done | with_reducible rfl)
  try simp only [Act.put, List.setIfInBounds_toArray, List.set_cons_zero, List.set_cons_succ]
  refine seqH_nil (NoPanic.normal ?_)
  clear hc0
  go_wp2
  go_ret
  exact ⟨by rw [← HD.out]; rfl, hHeld⟩

end Go.Proofs.Ytdcndfcdjlpecaa
