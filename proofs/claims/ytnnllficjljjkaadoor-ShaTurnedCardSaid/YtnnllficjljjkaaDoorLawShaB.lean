/-
  The walks of the laws ShaCuts, ShaTurned.
-/
import Derived.Test.YtnnllficjljjkaaDoorLawShaA
namespace Go.Proofs.YtnnllficjljjkaaDoor
open Go.RowKit
set_option linter.unusedVariables false

/-! ### ShaTurned -/
theorem rem_q (a n q : Nat) (h0 : 0 < n) (h1 : (n : Int) ≤ 1000000) (hq : q = a % n) (w : World) : (binOp .rem 3 (.int .i64 a) (.int .i64 n)).run Tryd.prog w = .ok (.int .i64 (q : Int)) w := by
  have e : (q : Int) = (a : Int).tmod (n : Int) := by rw [hq, Int.tmod_eq_emod_of_nonneg (by omega)]; norm_cast
  rw [e]
  have hb : 0 ≤ (a : Int).tmod (n : Int) ∧ (a : Int).tmod (n : Int) < 1000000 := by rw [← e]; have := Nat.mod_lt a h0; omega
  have hw := IntWalk.i64_in ((a : Int).tmod (n : Int)) (by omega)
  clear hq e
  go_simp
  omega

theorem OwnB.setB {w : World} {base : Nat} {v : Value} {l : List (BitVec 8)} (h : OwnB w base v l) {k : Nat} (hk : k < l.length) :
    ∃ g cap, v = .slice (some ⟨g, 0, none⟩) l.length cap ∧ base ≤ g ∧ g < w.heap.size ∧ w.cell? ⟨g, k, none⟩ = some (.int .u8 (B8 (l.getD k 0))) ∧ w.frozen? ⟨g, k, none⟩ = false ∧
      ∀ x : BitVec 8, BRow (w.setCell ⟨g, k, none⟩ (.int .u8 (B8 x))) (.slice (some ⟨g, 0, none⟩) l.length cap) (l.set k x) := by
  have hat := h.at (by omega)
  obtain ⟨g, cap, rfl, hg1, hg2, hcell⟩ := hat
  refine ⟨g, cap, rfl, hg1, hg2, hcell k hk, ?_, fun x => ?_⟩
  · rcases h.2 with ⟨hc, _⟩ | ⟨g', cap', cur, e, _, hg, _⟩
    · cases hc
    · cases e
      exact frozen_of_row w _ _ _ _ hg
  · refine ⟨_, cap, by rw [List.length_set], (fun hc => by cases hc), fun _ => ⟨g, 0, rfl, by simpa [World.setCell] using hg2, fun i hi => ?_⟩⟩
    rw [List.length_set] at hi
    rw [Nat.zero_add]
    by_cases e : i = k
    · subst e
      rw [World.cell?_setCell_same _ _ _ (hcell i hk)]
      simp
    · rw [World.cell?_setCell_other _ _ _ _ (fun hc => e (by cases hc; rfl)), hcell i hi, List.getElem_set_ne (by omega), List.getD_eq_getElem?_getD, List.getElem?_eq_getElem hi]
      rfl

set_option maxRecDepth 100000 in
set_option maxHeartbeats 400000 in
theorem shaTurned_in (A : Option Addr) (c : Nat) (l : List (BitVec 8)) (at_ : Nat) (by_ : BitVec 8) (w : World) (hv : BRow w (.slice A l.length c) l) (hc : l.length ≤ c) (hl0 : 1 ≤ l.length) (hl1 : l.length ≤ 500) (hk : KAt w) :
    Calls Tryd.prog 6 #[.slice A l.length c, .int .i64 at_, .int .u8 (B8 by_)] w fun e w' => e = .returned (.bool true) ∧ Below w.heap.size w w' := by
  have HV := Lib.hid hv
  have HK := Lib.hid hk
  have HC := Lib.hid hc
  have heq := eqlNum
  have hself := eqB_self
  have hqlt : at_ % l.length < l.length := Nat.mod_lt _ (by omega)
  have hq1 : (at_ : Int) % (l.length : Int) < (l.length : Int) := Int.emod_lt_of_pos _ (by omega)
  have hq2 : 0 ≤ (at_ : Int) % (l.length : Int) := Int.emod_nonneg _ (by omega)
  have ha0 : (0 : Int) ≤ (at_ : Int) := by omega
  clear hv hk hc
  generalize hn : l.length = n at *
  have HN := Lib.hid hn
  have HNB := Lib.hid (show n ≤ 500 from hl1)
  have hz0 : ((n : Int) < 1) = False := eq_false (by omega)
  have hz1 : (n = 0) = False := eq_false (by omega)
  have hz2 : ((500 : Int) < (n : Int)) = False := eq_false (by omega)
  clear hn hl0 hl1
  go_enter Tryd.func6, Tryd.ntmps6
  have HQ := Lib.hid hqlt
  go_wp2_with (first
    | (go_at_call 21; refine (alive5_any _).mono ?_; rintro e w1 ⟨rfl, hb1⟩)
    | (at_builtin; refine wpList_append_B rfl (.const (.slice none 0 0)) (.tmp 32) rfl w1.heap.size _ [] l rfl (World.ownsRow_nil _ _ _ _) (HV.out.below hb1) ?o1 (Nat.le_refl _) ?_; rotate_left; intro v2 w2 hown2 hg2; rw [List.nil_append] at hown2; obtain ⟨g, cap, rfl, hg1, hgl, hcell, hfro, hset⟩ := hown2.setB (k := at_ % n) (by rw [HN.out]; exact HQ.out); have hb2 := hb1.grown hg2 hb1.size (fun k hk => by cases hk); rw [HN.out]; have HSET := Lib.hid hset; clear hset hown2 hg2 hqlt; generalize l.getD (at_ % n) 0 = y at *; have hx := B8_xor y by_))
  case o1 => have := HN.out; have := HNB.out; simp; omega
  have HW := Lib.hid (show Below w.heap.size w (w2.setCell ⟨g, at_ % n, none⟩ (.int .u8 (B8 (y ^^^ by_)))) from hb2.setCell (by show w.heap.size ≤ g; exact Nat.le_trans hb1.size hg1) _)
  have HB := Lib.hid (show BRow (w2.setCell ⟨g, at_ % n, none⟩ (.int .u8 (B8 (y ^^^ by_)))) (.slice (some ⟨g, 0, none⟩) n cap) (l.set (at_ % n) (y ^^^ by_)) from by
    have := HSET.out (y ^^^ by_)
    rwa [HN.out] at this)
  have HL2 := Lib.hid (show (l.set (at_ % n) (y ^^^ by_)).length ≤ 1000000000 by rw [List.length_set, HN.out]; have := HNB.out; omega)
  have HSH := Lib.hid (show ∀ w, (Instr.sliceAt 25 (.slice A n c) none (some (.int .i64 ((at_ : Int) % (n : Int)))) none).run Tryd.prog w = .ok (.slice A (at_ % n) c) w from fun w => by
    have := slice_hi (A := A) (n := n) (c := c) (k := at_ % n) (by have := HC.out; have := HQ.out; omega) w
    rwa [Int.natCast_emod] at this)
  have HCUT := Lib.hid (show BRow (w2.setCell ⟨g, at_ % n, none⟩ (.int .u8 (B8 (y ^^^ by_)))) (.slice A (at_ % n) c) (l.take (at_ % n)) from
    ((HV.out.below HW.out).cutHi (by rw [HN.out]; exact Nat.le_of_lt HQ.out) (by rw [HN.out]; exact HC.out)))
  have HL3 := Lib.hid (show (l.take (at_ % n)).length ≤ 1000000000 by rw [List.length_take, HN.out]; have := HNB.out; omega)
  clear hb1 hb2 hg1 hgl hcell hfro hx
  generalize w2.setCell ⟨g, at_ % n, none⟩ (.int .u8 (B8 (y ^^^ by_))) = W at *
  generalize l.set (at_ % n) (y ^^^ by_) = m2 at *
  generalize l.take (at_ % n) = m3 at *
  refine wp_region_plan (S := fun w' => Below W.heap.size W w') [0, 3, 1, 2, 4, 5, 6, 7, 8, 9, 12, 13, 14, 10, 11, 15, 16, 17, 18] [true, true, false, false, false, true, true, true, true, true, true, true, true, false, false, false, true, true, true] (by kernel_rfl) (by kernel_rfl) (Below.refl _ _).drew (fun hHeld => ?_)
  simp only [List.filterMap_cons, List.filterMap_nil, List.getElem?_toArray, List.getElem?_cons_zero, List.getElem?_cons_succ]
  refine seqH_take (v := ?_) (Or.inl ⟨by rfl, ?_⟩) ?_
  rotate_left
  · (intro w hSw; go_simp; first | done | with_reducible rfl)
  try simp only [Act.put, List.setIfInBounds_toArray, List.set_cons_zero, List.set_cons_succ]
  refine seqH_take (v := ?_) (Or.inl ⟨by rfl, ?_⟩) ?_
  rotate_left
  · (intro w hSw; go_simp; first | done | with_reducible rfl)
  try simp only [Act.put, List.setIfInBounds_toArray, List.set_cons_zero, List.set_cons_succ]
  refine seqH_go (fun K hK => ?_)
  rw [if_pos (by rfl)]
  go_simp
  refine hK.out _ _ (below_allocS hHeld _) (fun hHeld2 => ?_)
  clear hK K hHeld
  have hHeld := hHeld2
  clear hHeld2
  try simp only [Act.put, List.setIfInBounds_toArray, List.set_cons_zero, List.set_cons_succ]
  refine seqH_go (fun K hK => ?_)
  rw [if_pos (by rfl)]
  go_simp
  refine (sum_one _ m2 _ (brows_one (w := (W.alloc _).drew) (heap_alloc_new W _) (HB.out.below hHeld)) HL2.out).mono ?_; rintro e w4 ⟨rfl, hbc⟩
  dsimp only
  refine hK.out _ _ (below_keep hHeld hbc) (fun hHeld2 => ?_)
  clear hK K hHeld
  have hHeld := hHeld2
  clear hHeld2
  try simp only [Act.put, List.setIfInBounds_toArray, List.set_cons_zero, List.set_cons_succ]
  refine seqH_go (fun K hK => ?_)
  rw [if_pos (by rfl)]
  go_simp
  refine (refSha_any _ m2 _ (HB.out.below hHeld) HL2.out (HK.out.below (HW.out.trans (hHeld.mono HW.out.size)))).mono ?_; rintro e w5 ⟨rfl, hbc⟩
  dsimp only
  refine hK.out _ _ (below_keep hHeld hbc) (fun hHeld2 => ?_)
  clear hK K hHeld
  have hHeld := hHeld2
  clear hHeld2
  try simp only [Act.put, List.setIfInBounds_toArray, List.set_cons_zero, List.set_cons_succ]
  refine seqH_take (v := ?_) (Or.inl ⟨by rfl, ?_⟩) ?_
  rotate_left
  · (intro w hSw; go_simp; first | done | with_reducible rfl)
  try simp only [Act.put, List.setIfInBounds_toArray, List.set_cons_zero, List.set_cons_succ]
  refine seqH_take (v := ?_) (Or.inl ⟨by rfl, ?_⟩) ?_
  rotate_left
  · (intro w hSw; go_simp; first | done | with_reducible rfl)
  try simp only [Act.put, List.setIfInBounds_toArray, List.set_cons_zero, List.set_cons_succ]
  refine seqH_take (v := ?_) (Or.inl ⟨by rfl, ?_⟩) ?_
  rotate_left
  · (intro w hSw; go_simp; first | done | with_reducible rfl)
  try simp only [Act.put, List.setIfInBounds_toArray, List.set_cons_zero, List.set_cons_succ]
  refine seqH_take (v := ?_) (Or.inl ⟨by rfl, ?_⟩) ?_
  rotate_left
  · (intro w hSw; go_simp; first | done | with_reducible rfl)
  try simp only [Act.put, List.setIfInBounds_toArray, List.set_cons_zero, List.set_cons_succ]
  refine seqH_take (yieldsIf_slice (by rfl) _ _ _ _ rfl _ (fun w _ => HSH.out w)) ?_
  try simp only [Act.put, List.setIfInBounds_toArray, List.set_cons_zero, List.set_cons_succ]
  refine seqH_take (v := ?_) (Or.inl ⟨by rfl, ?_⟩) ?_
  rotate_left
  · (intro w hSw; go_simp; first | done | with_reducible rfl)
  try simp only [Act.put, List.setIfInBounds_toArray, List.set_cons_zero, List.set_cons_succ]
  refine seqH_take (v := ?_) (Or.inl ⟨by rfl, ?_⟩) ?_
  rotate_left
  · (intro w hSw; go_simp; first | done | with_reducible rfl)
  try simp only [Act.put, List.setIfInBounds_toArray, List.set_cons_zero, List.set_cons_succ]
  refine seqH_take (yieldsIf_slice (by rfl) _ _ _ _ rfl _ (fun w _ => HSH.out w)) ?_
  try simp only [Act.put, List.setIfInBounds_toArray, List.set_cons_zero, List.set_cons_succ]
  refine seqH_go (fun K hK => ?_)
  rw [if_pos (by rfl)]
  go_simp
  refine hK.out _ _ (below_allocS hHeld _) (fun hHeld2 => ?_)
  clear hK K hHeld
  have hHeld := hHeld2
  clear hHeld2
  try simp only [Act.put, List.setIfInBounds_toArray, List.set_cons_zero, List.set_cons_succ]
  refine seqH_go (fun K hK => ?_)
  rw [if_pos (by rfl)]
  go_simp
  refine (sum_one _ m3 _ (brows_one (heap_alloc_new _ _) (HCUT.out.below hHeld)) HL3.out).mono ?_; rintro e w6 ⟨rfl, hbc⟩
  dsimp only
  refine hK.out _ _ (below_keep hHeld hbc) (fun hHeld2 => ?_)
  clear hK K hHeld
  have hHeld := hHeld2
  clear hHeld2
  try simp only [Act.put, List.setIfInBounds_toArray, List.set_cons_zero, List.set_cons_succ]
  refine seqH_go (fun K hK => ?_)
  rw [if_pos (by rfl)]
  go_simp
  refine (refSha_any _ m3 _ (HCUT.out.below hHeld) HL3.out (HK.out.below (HW.out.trans (hHeld.mono HW.out.size)))).mono ?_; rintro e w7 ⟨rfl, hbc⟩
  dsimp only
  refine hK.out _ _ (below_keep hHeld hbc) (fun hHeld2 => ?_)
  clear hK K hHeld
  have hHeld := hHeld2
  clear hHeld2
  try simp only [Act.put, List.setIfInBounds_toArray, List.set_cons_zero, List.set_cons_succ]
  refine seqH_take (v := ?_) (Or.inl ⟨by rfl, ?_⟩) ?_
  rotate_left
  · (intro w hSw; go_simp; first | done | with_reducible rfl)
  try simp only [Act.put, List.setIfInBounds_toArray, List.set_cons_zero, List.set_cons_succ]
  refine seqH_take (v := ?_) (Or.inl ⟨by rfl, ?_⟩) ?_
  rotate_left
  · (intro w hSw; go_simp; first | done | with_reducible rfl)
  try simp only [Act.put, List.setIfInBounds_toArray, List.set_cons_zero, List.set_cons_succ]
  refine seqH_take (v := ?_) (Or.inl ⟨by rfl, ?_⟩) ?_
  rotate_left
  · (intro w hSw; go_simp; first | done | with_reducible rfl)
  try simp only [Act.put, List.setIfInBounds_toArray, List.set_cons_zero, List.set_cons_succ]
  refine seqH_nil (NoPanic.normal ?_)
  go_wp2
  go_ret
  exact ⟨rfl, HW.out.trans (hHeld.mono HW.out.size)⟩

set_option maxHeartbeats 400000 in
theorem shaTurned_out (A : Option Addr) (n c : Nat) (at_ : Int) (v : Int) (w : World) (h : n < 1 ∨ 500 < n ∨ at_ < 0) :
    Calls Tryd.prog 6 #[.slice A n c, .int .i64 at_, .int .u8 v] w fun e w' => e = .returned (.bool true) ∧ Below w.heap.size w w' := by
  by_cases h0 : n = 0
  · subst h0
    clear h
    go_enter Tryd.func6, Tryd.ntmps6
    go_wp2_with (first | (go_at_call 21; refine (alive5_any _).mono ?_; rintro e w1 ⟨rfl, hb1⟩))
    go_ret
    exact ⟨rfl, hb1⟩
  have hz0 : ((n : Int) < 1) = False := eq_false (by omega)
  have hz1 : (n = 0) = False := eq_false h0
  by_cases h1 : 500 < n
  · have hz2 : ((500 : Int) < (n : Int)) = True := eq_true (by omega)
    clear h h0 h1
    go_enter Tryd.func6, Tryd.ntmps6
    go_wp2_with (first | (go_at_call 21; refine (alive5_any _).mono ?_; rintro e w1 ⟨rfl, hb1⟩))
    go_ret
    exact ⟨rfl, hb1⟩
  · have hz2 : ((500 : Int) < (n : Int)) = False := eq_false (by omega)
    have h2 : at_ < 0 := by omega
    clear h h0 h1
    go_enter Tryd.func6, Tryd.ntmps6
    go_wp2_with (first | (go_at_call 21; refine (alive5_any _).mono ?_; rintro e w1 ⟨rfl, hb1⟩))
    go_ret
    exact ⟨rfl, hb1⟩
theorem shaTurned_walk {w : World} (v : Value) (l : List (BitVec 8)) (hv : BRow w v l) (hc : l.length ≤ maxLen ∧ CapOk v) (a : Int) (_ha : -9223372036854775808 ≤ a ∧ a ≤ 9223372036854775807) (b : BitVec 8) (hk : KAt w) :
    Calls Tryd.prog 6 #[v, .int .i64 a, .int .u8 (B8 b)] w fun e w' => e = .returned (.bool true) ∧ Below w.heap.size w w' := by
  obtain ⟨A, c, rfl⟩ := hv.shape
  by_cases h : l.length < 1 ∨ 500 < l.length ∨ a < 0
  · exact shaTurned_out _ _ _ _ _ _ h
  · obtain ⟨a, rfl⟩ := Int.eq_ofNat_of_zero_le (show 0 ≤ a by omega)
    have e1 : 1 ≤ l.length := by omega
    have e2 : l.length ≤ 500 := by omega
    exact shaTurned_in A c l a b w hv (hc.2 _ _ _ rfl).1 e1 e2 hk

/-! ### ShaCuts -/
theorem sum_flat (v : Value) (ls : List (List (BitVec 8))) (l : List (BitVec 8)) (w : World) (hv : BRows w v ls) (hl : ls.length ≤ 1000000) (h : ls.flatten = l) (hm : l.length ≤ 1000000000) :
    Calls Tryd.prog 25 #[v] w fun e w' => e = .returned (.agg (rowB 32 (sha l))) ∧ Below w.heap.size w w' := by
  subst h
  exact sum_any v ls w hv hl hm
theorem brow_nil (w : World) : BRow w (.slice none 0 0) [] := ⟨none, 0, rfl, fun _ => rfl, fun h => absurd h (by simp)⟩

set_option maxRecDepth 100000 in
set_option maxHeartbeats 1000000 in
theorem shaCuts_in (A : Option Addr) (c : Nat) (l : List (BitVec 8)) (i k : Nat) (w : World) (hv : BRow w (.slice A l.length c) l) (hc : l.length ≤ c) (hl1 : l.length ≤ 1000) (hik : i ≤ k) (hkl : k ≤ l.length) (hk : KAt w) :
    Calls Tryd.prog 5 #[.slice A l.length c, .int .i64 i, .int .i64 k] w fun e w' => e = .returned (.bool true) ∧ Below w.heap.size w w' := by
  have HV := Lib.hid hv
  have HK := Lib.hid hk
  have HLM := Lib.hid (show l.length ≤ 1000000000 by omega)
  have HSZ := Lib.hid (show (Tryd.prog.info? 28).map (·.size) = some (rowB 32 (sha l)).size by rw [size32, rowB_size])
  have S1 := Lib.hid (fun w => slice_hi (A := A) (n := l.length) (c := c) (k := i) (by omega) w)
  have S2 := Lib.hid (fun w => slice_B (A := A) (n := l.length) (c := c) hik (show k ≤ c by omega) w)
  have S3 := Lib.hid (fun w => slice_lo (A := A) (n := l.length) (c := c) hkl w)
  have S4 := Lib.hid (fun w => slice_hi (A := A) (n := l.length) (c := c) (k := k) (by omega) w)
  have C1 := Lib.hid (fun w (h : BRow w (.slice A l.length c) l) => h.cutHi (k := i) (by omega) hc)
  have C2 := Lib.hid (fun w (h : BRow w (.slice A l.length c) l) => h.cut hik hkl hc)
  have C3 := Lib.hid (fun w (h : BRow w (.slice A l.length c) l) => h.cutLo hkl hc)
  have C4 := Lib.hid (fun w (h : BRow w (.slice A l.length c) l) => h.cutHi (k := k) hkl hc)
  have F3 := Lib.hid (show [l.take i, (l.drop i).take (k - i), l.drop k].flatten = l from by
    have h1 : l.take k = l.take i ++ (l.drop i).take (k - i) := by
      have := List.take_add (l := l) (i := i) (j := k - i)
      rwa [show i + (k - i) = k by omega] at this
    simp only [List.flatten_cons, List.flatten_nil, List.append_nil]
    rw [← List.append_assoc, ← h1, List.take_append_drop])
  have F4 := Lib.hid (show [[], l.take k, [], l.drop k].flatten = l from by simp)
  have heq := eqlNum
  have hself := eqB_self
  have hz2 : ((1000 : Int) < (l.length : Int)) = False := eq_false (by omega)
  have hd2 : decide (k < i) = false := decide_eq_false (by omega)
  have hd3 : decide (l.length < k) = false := decide_eq_false (by omega)
  have hi0 : (0 : Int) ≤ (i : Int) := by omega
  clear hv hk hc hl1 hik hkl
  generalize hn : l.length = n at *
  have HLE := Lib.hid (show l.length ≤ 1000000000 by rw [hn]; exact HLM.out)
  clear hn
  go_enter Tryd.func5, Tryd.ntmps5
  go_wp2_with (first
    | (go_at_call 21; refine (alive5_any _).mono ?_; rintro e w1 ⟨rfl, hb1⟩)
    | (go_at_call 25; refine (sum_one _ l _ (brows_one (heap_alloc_new _ _) (HV.out.below (below_allocS hb1 _))) HLE.out).mono ?_; rintro e w2 ⟨rfl, hb2⟩)
    | (with_reducible refine wpList_alloc_row rfl 28 rfl 32 _ info32 ?_)
    | ((with_reducible show wpList _ _ _ (⟨_, .store 28 _ _, _, _, _, _⟩ :: _) _ _); refine wpList_store_rowTo rfl 28 _ _ rfl rfl _ (rowB 32 (sha l)) rfl rfl 28 _ (heap_alloc_new _ _) HSZ.out (by rw [row_size, rowB_size]) (rowB_oneCell _ _) ?_))
  have hb3 := below_keep (below_allocS hb1 (.cells #[.slice A n c] 25)) hb2
  have HW := Lib.hid (show Below w.heap.size w ((w2.alloc (.cells (row 32 fun _ => .int .u8 0) 28)).setRow w2.heap.size (rowB 32 (sha l))) from
    below_setRow (below_allocS hb3 _) hb3.size _)
  have HR := Lib.hid (show ((w2.alloc (.cells (row 32 fun _ => .int .u8 0) 28)).setRow w2.heap.size (rowB 32 (sha l))).heap[w2.heap.size]? = some (.cells (rowB 32 (sha l)) 28 (0, 0)) from heap_setRow_at (heap_alloc_new _ _))
  clear hb1 hb2 hb3
  generalize (w2.alloc (.cells (row 32 fun _ => .int .u8 0) 28)).setRow w2.heap.size (rowB 32 (sha l)) = W at *
  generalize w2.heap.size = g at *
  have HV2 := Lib.hid (HV.out.below HW.out)
  have hrg := range_num HR.out
  have hu := Tryd.underlying28
  have hi : (Tryd.prog.info? 28).map (·.size) = some (rowB 32 (sha l)).toList.length := by rw [size32]; simp [rowB_size]
  refine wp_region_plan (S := fun w' => Below W.heap.size W w') [0, 1, 2, 3, 4, 5, 6, 7, 8, 9, 10, 11, 12, 13, 14, 15, 16, 17, 18, 19, 20, 21, 22, 23, 24, 25, 26, 27, 28, 29, 30, 31, 32] [true, true, false, true, true, true, true, true, true, true, true, true, true, true, true, true, false, false, true, true, true, true, true, true, true, true, true, true, false, false, true, true, true] (by kernel_rfl) (by kernel_rfl) (Below.refl _ _).drew (fun hHeld => ?_)
  simp only [List.filterMap_cons, List.filterMap_nil, List.getElem?_toArray, List.getElem?_cons_zero, List.getElem?_cons_succ]
  refine seqH_take (yieldsIf_load_mid (by rfl) _ _ rfl _ _ rfl _ _ (fun w hw => hrg w hw) hu rfl hi) ?_
  try simp only [Act.put, List.setIfInBounds_toArray, List.set_cons_zero, List.set_cons_succ, rowB_back]
  refine seqH_take (v := ?_) (Or.inl ⟨by rfl, ?_⟩) ?_
  rotate_left
  · (intro w hSw; go_simp; first | done | with_reducible rfl)
  try simp only [Act.put, List.setIfInBounds_toArray, List.set_cons_zero, List.set_cons_succ]
  refine seqH_go (fun K hK => ?_)
  rw [if_pos (by rfl)]
  go_simp
  refine (refSha_any _ l _ (HV2.out.below hHeld) HLE.out (HK.out.below (HW.out.trans (hHeld.mono HW.out.size)))).mono ?_; rintro e w4 ⟨rfl, hbc⟩
  dsimp only
  refine hK.out _ _ (below_keep hHeld hbc) (fun hHeld2 => ?_)
  clear hK K hHeld
  have hHeld := hHeld2
  clear hHeld2
  try simp only [Act.put, List.setIfInBounds_toArray, List.set_cons_zero, List.set_cons_succ]
  refine seqH_take (v := ?_) (Or.inl ⟨by rfl, ?_⟩) ?_
  rotate_left
  · (intro w hSw; go_simp; first | done | with_reducible rfl)
  try simp only [Act.put, List.setIfInBounds_toArray, List.set_cons_zero, List.set_cons_succ]
  refine seqH_take (v := ?_) (Or.inl ⟨by rfl, ?_⟩) ?_
  rotate_left
  · (intro w hSw; go_simp; first | done | with_reducible rfl)
  try simp only [Act.put, List.setIfInBounds_toArray, List.set_cons_zero, List.set_cons_succ]
  refine seqH_take (yieldsIf_load_mid (by rfl) _ _ rfl _ _ rfl _ _ (fun w hw => hrg w hw) hu rfl hi) ?_
  try simp only [Act.put, List.setIfInBounds_toArray, List.set_cons_zero, List.set_cons_succ, rowB_back]
  refine seqH_take (v := ?_) (Or.inl ⟨by rfl, ?_⟩) ?_
  rotate_left
  · (intro w hSw; go_simp; first | done | with_reducible rfl)
  try simp only [Act.put, List.setIfInBounds_toArray, List.set_cons_zero, List.set_cons_succ]
  refine seqH_take (v := ?_) (Or.inl ⟨by rfl, ?_⟩) ?_
  rotate_left
  · (intro w hSw; go_simp; first | done | with_reducible rfl)
  try simp only [Act.put, List.setIfInBounds_toArray, List.set_cons_zero, List.set_cons_succ]
  refine seqH_take (yieldsIf_slice (by rfl) _ _ _ _ rfl _ (fun w _ => S1.out w)) ?_
  try simp only [Act.put, List.setIfInBounds_toArray, List.set_cons_zero, List.set_cons_succ]
  refine seqH_take (v := ?_) (Or.inl ⟨by rfl, ?_⟩) ?_
  rotate_left
  · (intro w hSw; go_simp; first | done | with_reducible rfl)
  try simp only [Act.put, List.setIfInBounds_toArray, List.set_cons_zero, List.set_cons_succ]
  refine seqH_take (v := ?_) (Or.inl ⟨by rfl, ?_⟩) ?_
  rotate_left
  · (intro w hSw; go_simp; first | done | with_reducible rfl)
  try simp only [Act.put, List.setIfInBounds_toArray, List.set_cons_zero, List.set_cons_succ]
  refine seqH_take (v := ?_) (Or.inl ⟨by rfl, ?_⟩) ?_
  rotate_left
  · (intro w hSw; go_simp; first | done | with_reducible rfl)
  try simp only [Act.put, List.setIfInBounds_toArray, List.set_cons_zero, List.set_cons_succ]
  refine seqH_take (yieldsIf_slice (by rfl) _ _ _ _ rfl _ (fun w _ => S2.out w)) ?_
  try simp only [Act.put, List.setIfInBounds_toArray, List.set_cons_zero, List.set_cons_succ]
  refine seqH_take (v := ?_) (Or.inl ⟨by rfl, ?_⟩) ?_
  rotate_left
  · (intro w hSw; go_simp; first | done | with_reducible rfl)
  try simp only [Act.put, List.setIfInBounds_toArray, List.set_cons_zero, List.set_cons_succ]
  refine seqH_take (v := ?_) (Or.inl ⟨by rfl, ?_⟩) ?_
  rotate_left
  · (intro w hSw; go_simp; first | done | with_reducible rfl)
  try simp only [Act.put, List.setIfInBounds_toArray, List.set_cons_zero, List.set_cons_succ]
  refine seqH_take (yieldsIf_slice (by rfl) _ _ _ _ rfl _ (fun w _ => S3.out w)) ?_
  try simp only [Act.put, List.setIfInBounds_toArray, List.set_cons_zero, List.set_cons_succ]
  refine seqH_go (fun K hK => ?_)
  rw [if_pos (by rfl)]
  go_simp
  refine hK.out _ _ (below_allocS hHeld _) (fun hHeld2 => ?_)
  clear hK K hHeld
  have hHeld := hHeld2
  clear hHeld2
  try simp only [Act.put, List.setIfInBounds_toArray, List.set_cons_zero, List.set_cons_succ]
  refine seqH_go (fun K hK => ?_)
  rw [if_pos (by rfl)]
  go_simp
  refine (sum_flat _ [l.take i, (l.drop i).take (k - i), l.drop k] l _ (brows_three (heap_alloc_new _ _) (C1.out _ (HV2.out.below hHeld)) (C2.out _ (HV2.out.below hHeld)) (C3.out _ (HV2.out.below hHeld))) (by simp) F3.out HLE.out).mono ?_; rintro e w5 ⟨rfl, hbc⟩
  dsimp only
  refine hK.out _ _ (below_keep hHeld hbc) (fun hHeld2 => ?_)
  clear hK K hHeld
  have hHeld := hHeld2
  clear hHeld2
  try simp only [Act.put, List.setIfInBounds_toArray, List.set_cons_zero, List.set_cons_succ]
  refine seqH_take (v := ?_) (Or.inl ⟨by rfl, ?_⟩) ?_
  rotate_left
  · (intro w hSw; go_simp; first | done | with_reducible rfl)
  try simp only [Act.put, List.setIfInBounds_toArray, List.set_cons_zero, List.set_cons_succ]
  refine seqH_take (v := ?_) (Or.inl ⟨by rfl, ?_⟩) ?_
  rotate_left
  · (intro w hSw; go_simp; first | done | with_reducible rfl)
  try simp only [Act.put, List.setIfInBounds_toArray, List.set_cons_zero, List.set_cons_succ]
  refine seqH_take (v := ?_) (Or.inl ⟨by rfl, ?_⟩) ?_
  rotate_left
  · (intro w hSw; go_simp; first | done | with_reducible rfl)
  try simp only [Act.put, List.setIfInBounds_toArray, List.set_cons_zero, List.set_cons_succ]
  refine seqH_take (yieldsIf_load_mid (by rfl) _ _ rfl _ _ rfl _ _ (fun w hw => hrg w hw) hu rfl hi) ?_
  try simp only [Act.put, List.setIfInBounds_toArray, List.set_cons_zero, List.set_cons_succ, rowB_back]
  refine seqH_take (v := ?_) (Or.inl ⟨by rfl, ?_⟩) ?_
  rotate_left
  · (intro w hSw; go_simp; first | done | with_reducible rfl)
  try simp only [Act.put, List.setIfInBounds_toArray, List.set_cons_zero, List.set_cons_succ]
  refine seqH_take (v := ?_) (Or.inl ⟨by rfl, ?_⟩) ?_
  rotate_left
  · (intro w hSw; go_simp; first | done | with_reducible rfl)
  try simp only [Act.put, List.setIfInBounds_toArray, List.set_cons_zero, List.set_cons_succ]
  refine seqH_take (yieldsIf_slice (by rfl) _ _ _ _ rfl _ (fun w _ => S4.out w)) ?_
  try simp only [Act.put, List.setIfInBounds_toArray, List.set_cons_zero, List.set_cons_succ]
  refine seqH_take (v := ?_) (Or.inl ⟨by rfl, ?_⟩) ?_
  rotate_left
  · (intro w hSw; go_simp; first | done | with_reducible rfl)
  try simp only [Act.put, List.setIfInBounds_toArray, List.set_cons_zero, List.set_cons_succ]
  refine seqH_take (v := ?_) (Or.inl ⟨by rfl, ?_⟩) ?_
  rotate_left
  · (intro w hSw; go_simp; first | done | with_reducible rfl)
  try simp only [Act.put, List.setIfInBounds_toArray, List.set_cons_zero, List.set_cons_succ]
  refine seqH_take (yieldsIf_slice (by rfl) _ _ _ _ rfl _ (fun w _ => S3.out w)) ?_
  try simp only [Act.put, List.setIfInBounds_toArray, List.set_cons_zero, List.set_cons_succ]
  refine seqH_go (fun K hK => ?_)
  rw [if_pos (by rfl)]
  go_simp
  refine hK.out _ _ (below_allocS hHeld _) (fun hHeld2 => ?_)
  clear hK K hHeld
  have hHeld := hHeld2
  clear hHeld2
  try simp only [Act.put, List.setIfInBounds_toArray, List.set_cons_zero, List.set_cons_succ]
  refine seqH_go (fun K hK => ?_)
  rw [if_pos (by rfl)]
  go_simp
  refine (sum_flat _ [[], l.take k, [], l.drop k] l _ (brows_four (heap_alloc_new _ _) (brow_nil _) (C4.out _ (HV2.out.below hHeld)) (brow_nil _) (C3.out _ (HV2.out.below hHeld))) (by simp) F4.out HLE.out).mono ?_; rintro e w6 ⟨rfl, hbc⟩
  dsimp only
  refine hK.out _ _ (below_keep hHeld hbc) (fun hHeld2 => ?_)
  clear hK K hHeld
  have hHeld := hHeld2
  clear hHeld2
  try simp only [Act.put, List.setIfInBounds_toArray, List.set_cons_zero, List.set_cons_succ]
  refine seqH_take (v := ?_) (Or.inl ⟨by rfl, ?_⟩) ?_
  rotate_left
  · (intro w hSw; go_simp; first | done | with_reducible rfl)
  try simp only [Act.put, List.setIfInBounds_toArray, List.set_cons_zero, List.set_cons_succ]
  refine seqH_take (v := ?_) (Or.inl ⟨by rfl, ?_⟩) ?_
  rotate_left
  · (intro w hSw; go_simp; first | done | with_reducible rfl)
  try simp only [Act.put, List.setIfInBounds_toArray, List.set_cons_zero, List.set_cons_succ]
  refine seqH_take (v := ?_) (Or.inl ⟨by rfl, ?_⟩) ?_
  rotate_left
  · (intro w hSw; go_simp; first | done | with_reducible rfl)
  try simp only [Act.put, List.setIfInBounds_toArray, List.set_cons_zero, List.set_cons_succ]
  refine seqH_nil (NoPanic.normal ?_)
  go_wp2
  go_ret
  exact ⟨rfl, HW.out.trans (hHeld.mono HW.out.size)⟩

set_option maxHeartbeats 400000 in
theorem shaCuts_out (A : Option Addr) (n c : Nat) (i k : Int) (w : World) (h : 1000 < n ∨ i < 0 ∨ k < i ∨ (n : Int) < k) :
    Calls Tryd.prog 5 #[.slice A n c, .int .i64 i, .int .i64 k] w fun e w' => e = .returned (.bool true) ∧ Below w.heap.size w w' := by
  by_cases h0 : 1000 < n
  · have hz2 : ((1000 : Int) < (n : Int)) = True := eq_true (by omega)
    clear h h0
    go_enter Tryd.func5, Tryd.ntmps5
    go_wp2_with (first | (go_at_call 21; refine (alive5_any _).mono ?_; rintro e w1 ⟨rfl, hb1⟩))
    go_ret
    exact ⟨rfl, hb1⟩
  have hz2 : ((1000 : Int) < (n : Int)) = False := eq_false (by omega)
  by_cases h1 : i < 0
  · have hd : decide (i < 0) = true := decide_eq_true h1
    clear h h0
    go_enter Tryd.func5, Tryd.ntmps5
    go_wp2_with (first | (go_at_call 21; refine (alive5_any _).mono ?_; rintro e w1 ⟨rfl, hb1⟩))
    go_ret
    exact ⟨rfl, hb1⟩
  have hd1 : decide (i < 0) = false := decide_eq_false h1
  by_cases h2 : k < i
  · have hd : decide (k < i) = true := decide_eq_true h2
    clear h h0 h1
    go_enter Tryd.func5, Tryd.ntmps5
    go_wp2_with (first | (go_at_call 21; refine (alive5_any _).mono ?_; rintro e w1 ⟨rfl, hb1⟩))
    go_ret
    exact ⟨rfl, hb1⟩
  have hd2 : decide (k < i) = false := decide_eq_false h2
  have hd3 : decide ((n : Int) < k) = true := decide_eq_true (by omega)
  clear h h0 h1 h2
  go_enter Tryd.func5, Tryd.ntmps5
  go_wp2_with (first | (go_at_call 21; refine (alive5_any _).mono ?_; rintro e w1 ⟨rfl, hb1⟩))
  go_ret
  exact ⟨rfl, hb1⟩
theorem shaCuts_walk {w : World} (v : Value) (l : List (BitVec 8)) (hv : BRow w v l) (hc : l.length ≤ maxLen ∧ CapOk v) (i : Int) (_hi : -9223372036854775808 ≤ i ∧ i ≤ 9223372036854775807) (k : Int) (_hk : -9223372036854775808 ≤ k ∧ k ≤ 9223372036854775807) (hk : KAt w) :
    Calls Tryd.prog 5 #[v, .int .i64 i, .int .i64 k] w fun e w' => e = .returned (.bool true) ∧ Below w.heap.size w w' := by
  obtain ⟨A, c, rfl⟩ := hv.shape
  by_cases h : 1000 < l.length ∨ i < 0 ∨ k < i ∨ (l.length : Int) < k
  · exact shaCuts_out _ _ _ _ _ _ h
  · obtain ⟨i, rfl⟩ := Int.eq_ofNat_of_zero_le (show 0 ≤ i by omega)
    obtain ⟨k, rfl⟩ := Int.eq_ofNat_of_zero_le (show 0 ≤ k by omega)
    have e1 : l.length ≤ 1000 := by omega
    have e2 : i ≤ k := by omega
    have e3 : k ≤ l.length := by omega
    exact shaCuts_in A c l i k w hv (hc.2 _ _ _ rfl).1 e1 e2 e3 hk

end Go.Proofs.YtnnllficjljjkaaDoor
