/-
  The walks of the laws ShaSums, ShaLengths.
-/
import Derived.Test.YtnnllficjljjkaaDoorAlive
import Derived.Test.YtnnllficjljjkaaDoorRefSha
import Derived.Test.YtnnllficjljjkaaDoorPlan
import Derived.Test.YtnnllficjljjkaaDoorMake
import Derived.Test.YtnnllficjljjkaaDoorCut
namespace Go.Proofs.YtnnllficjljjkaaDoor
open Go.RowKit
set_option linter.unusedVariables false

theorem eqlNum (f g : Nat → BitVec 8) (w : World) : (binOp .eql 28 (.agg (rowB 32 f)) (.agg (rowB 32 g))).run Tryd.prog w = .ok (.bool (eqB f g)) w :=
  run_eql_num f g Tryd.underlying28 (by kernel_rfl) Tryd.underlying5 (fun w => by kernel_rfl) w
theorem neqNum (f g : Nat → BitVec 8) (w : World) : (binOp .neq 28 (.agg (rowB 32 f)) (.agg (rowB 32 g))).run Tryd.prog w = .ok (.bool (!eqB f g)) w :=
  run_neq_num f g Tryd.underlying28 (by kernel_rfl) Tryd.underlying5 (fun w => by kernel_rfl) w
theorem loadNum {w : World} {g : Nat} {f : Nat → BitVec 8} {t : TypeId} {fr : Nat × Nat} (h : w.heap[g]? = some (.cells (rowB 32 f) t fr)) : (Instr.loadAt 28 (.pointer (some ⟨g, 0, none⟩))).run Tryd.prog w = .ok (.agg (rowB 32 f)) w := by
  have h1 := run_loadAt_mid (P := Tryd.prog) w g 0 28 (rowB 32 f).toList _ (fun j v hv => by
    rw [Nat.zero_add, cell_of_row w g j _ _ _ h]; simpa using hv) Tryd.underlying28 rfl (by rw [size32]; simp [rowB_size])
  rw [h1, Array.toArray_toList]

theorem join_sl (v : Value) (l : List (List (BitVec 8))) (w : World) (hv : BRows w v l) (hl : l.length ≤ 1000000) (hm : l.flatten.length ≤ 1000000000) :
    Calls Tryd.prog 23 #[v] w fun e w' => ∃ a n c, e = .returned (.slice a n c) ∧ BRow w' (.slice a n c) l.flatten ∧ Below w.heap.size w w' :=
  (join_any v l w hv hl hm).mono fun e w' ⟨v', h1, h2, h3⟩ => by
    obtain ⟨a, c, rfl⟩ := h2.brow.shape
    exact ⟨a, _, c, h1, h2.brow, h3⟩
theorem keep_and {B R : World → Prop} (h : ∀ w, B w → R w) {w : World} (hb : B w) : B w ∧ R w := ⟨hb, h w hb⟩
theorem range_num {W : World} {g : Nat} {f : Nat → BitVec 8} {t : TypeId} {fr : Nat × Nat} (h : W.heap[g]? = some (.cells (rowB 32 f) t fr)) : ∀ w', Below W.heap.size W w' → w'.rangeAt g 0 (rowB 32 f).toList := fun w' hb j v hv => by
  have := (hb.block _ (Array.getElem?_eq_some_iff.1 h).1).trans h
  rw [Nat.zero_add, cell_of_row w' g j _ _ _ this]
  simpa using hv
theorem rowB_back (n : Nat) (f : Nat → BitVec 8) : (rowB n f).toList.toArray = rowB n f := Array.toArray_toList
theorem sum_one (v : Value) (m : List (BitVec 8)) (w : World) (hv : BRows w v [m]) (hm : m.length ≤ 1000000000) :
    Calls Tryd.prog 25 #[v] w fun e w' => e = .returned (.agg (rowB 32 (sha m))) ∧ Below w.heap.size w w' := by
  have := sum_any v [m] w hv (by simp) (by simpa using hm)
  simpa using this
theorem sum_two (v : Value) (m0 m1 : List (BitVec 8)) (w : World) (hv : BRows w v [m0, m1]) (hm : m0.length + m1.length ≤ 1000000000) :
    Calls Tryd.prog 25 #[v] w fun e w' => e = .returned (.agg (rowB 32 (sha (m0 ++ m1)))) ∧ Below w.heap.size w w' := by
  have := sum_any v [m0, m1] w hv (by simp) (by simpa using hm)
  simpa using this

theorem big_false {l : List (List (BitVec 8))} (h : bigB l = false) : l.length ≤ 30 ∧ l.flatten.length ≤ 30000 := by
  unfold bigB at h
  rw [Bool.or_eq_false_iff, List.any_eq_false] at h
  have h0 : l.length ≤ 30 := by have := h.1; simp at this; exact this
  refine ⟨h0, ?_⟩
  have key : ∀ (l : List (List (BitVec 8))), (∀ m ∈ l, m.length ≤ 1000) → l.flatten.length ≤ 1000 * l.length := by
    intro l
    induction l with
    | nil => intro _; simp
    | cons m l ih =>
      intro hm
      have h1 := hm m (by simp)
      have h2 := ih fun x hx => hm x (by simp [hx])
      simp only [List.flatten_cons, List.length_append, List.length_cons]
      omega
  have := key l fun m hm => by have := h.2 m hm; simp at this; exact this
  omega

set_option maxRecDepth 100000 in
set_option maxHeartbeats 1000000 in
theorem shaSums_in (v : Value) (l : List (List (BitVec 8))) (w : World) (hv : BRows w v l) (hk : KAt w) (hbig : bigB l = false) :
    Calls Tryd.prog 3 #[v] w fun e w' => e = .returned (.bool true) ∧ Below w.heap.size w w' := by
  obtain ⟨hl, hm⟩ := big_false hbig
  have HV := Lib.hid hv
  have HK := Lib.hid hk
  have HBIG := Lib.hid hbig
  have HSZ := Lib.hid (show (Tryd.prog.info? 28).map (·.size) = some (rowB 32 (sha l.flatten)).size by rw [size32, rowB_size])
  obtain ⟨a, c, rfl⟩ := hv.shape
  clear hv hk hbig
  have heq := eqlNum
  have hself := eqB_self
  go_enter Tryd.func3, Tryd.ntmps3
  go_wp2_with (first
    | (go_at_call 21; refine (alive5_any _).mono ?_; rintro e w1 ⟨rfl, hb1⟩)
    | (go_at_call 22; refine (big_any _ l _ (HV.out.below hb1)).mono ?_; rintro e w' ⟨rfl, rfl⟩; rw [HBIG.out])
    | (go_at_call 23; refine (join_sl _ l _ (HV.out.below hb1) (by omega) (by omega)).mono ?_; rintro e w2 ⟨a2, n2, c2, rfl, hown2, hb2⟩)
    | (go_at_call 24; refine (refSha_any _ l.flatten _ hown2 (by omega) (HK.out.below (below_keep hb1 hb2))).mono ?_; rintro e w3 ⟨rfl, hb3⟩)
    | (with_reducible refine wpList_alloc_row rfl 28 rfl 32 _ info32 ?_)
    | ((with_reducible show wpList _ _ _ (⟨_, .store 28 _ _, _, _, _, _⟩ :: _) _ _); refine wpList_store_rowTo rfl 28 _ _ rfl rfl _ (rowB 32 (sha l.flatten)) rfl rfl 28 _ (heap_alloc_new _ _) HSZ.out (by rw [row_size, rowB_size]) (rowB_oneCell _ _) ?_))
  have HW := Lib.hid (show Below w.heap.size w ((w3.alloc (.cells (row 32 fun _ => .int .u8 0) 28)).setRow w3.heap.size (rowB 32 (sha l.flatten))) from
    below_setRow (below_allocS (below_keep (below_keep hb1 hb2) hb3) _) (below_keep (below_keep hb1 hb2) hb3).size _)
  have HR := Lib.hid (show ((w3.alloc (.cells (row 32 fun _ => .int .u8 0) 28)).setRow w3.heap.size (rowB 32 (sha l.flatten))).heap[w3.heap.size]? = some (.cells (rowB 32 (sha l.flatten)) 28 (0, 0)) from heap_setRow_at (heap_alloc_new _ _))
  have HV2 := Lib.hid (show BRow ((w3.alloc (.cells (row 32 fun _ => .int .u8 0) 28)).setRow w3.heap.size (rowB 32 (sha l.flatten))) (.slice a2 n2 c2) l.flatten from
    hown2.below (below_setRow ((hb3.alloc hb3.size _)) hb3.size _))
  clear hown2 hb1 hb2 hb3
  generalize (w3.alloc (.cells (row 32 fun _ => .int .u8 0) 28)).setRow w3.heap.size (rowB 32 (sha l.flatten)) = W at *
  generalize w3.heap.size = g at *
  have hrg := range_num HR.out
  have hu := Tryd.underlying28
  have hi : (Tryd.prog.info? 28).map (·.size) = some (rowB 32 (sha l.flatten)).toList.length := by rw [size32]; simp [rowB_size]
  refine wp_region_plan (S := fun w' => Below W.heap.size W w') [0, 2, 1, 3, 4, 5, 8, 6, 7, 9, 10, 11] [true, true, false, true, true, true, true, false, false, true, true, true] (by kernel_rfl) (by kernel_rfl) (Below.refl _ _).drew (fun hHeld => ?_)
  simp only [List.filterMap_cons, List.filterMap_nil, List.getElem?_toArray, List.getElem?_cons_zero, List.getElem?_cons_succ]
  refine seqH_take (v := ?_) (Or.inl ⟨by rfl, ?_⟩) ?_
  rotate_left
  · (intro w hSw; go_simp; first | done | with_reducible rfl)
  try simp only [Act.put, List.setIfInBounds_toArray, List.set_cons_zero, List.set_cons_succ]
  refine seqH_take (yieldsIf_load_mid (by rfl) _ _ rfl _ _ rfl _ _ (fun w hw => hrg w hw) hu rfl hi) ?_
  try simp only [Act.put, List.setIfInBounds_toArray, List.set_cons_zero, List.set_cons_succ, rowB_back]
  refine seqH_go (fun K hK => ?_)
  rw [if_pos (by rfl)]
  go_simp
  refine (sum_any _ l _ (HV.out.below (HW.out.trans (hHeld.mono HW.out.size))) (by omega) (by omega)).mono ?_; rintro e w4 ⟨rfl, hbc⟩
  try dsimp only
  refine hK.out _ _ (below_keep hHeld hbc) (fun hHeld2 => ?_)
  clear hK K hHeld
  have hHeld := hHeld2
  clear hHeld2
  try simp only [Act.put, List.setIfInBounds_toArray, List.set_cons_zero, List.set_cons_succ]
  refine seqH_take (v := ?_) (Or.inl ⟨by rfl, ?_⟩) ?_
  rotate_left
  · (intro w hSw; go_simp; first | done | with_reducible rfl)
  try simp only [Act.put, List.setIfInBounds_toArray, List.set_cons_zero, List.set_cons_succ]
  refine seqH_take (v := ?_) (Or.inl ⟨by rfl, ?_⟩) ?_
  rotate_left
  · (intro w hSw; go_simp; first | done | with_reducible rfl)
  try simp only [Act.put, List.setIfInBounds_toArray, List.set_cons_zero, List.set_cons_succ]
  refine seqH_take (v := ?_) (Or.inl ⟨by rfl, ?_⟩) ?_
  rotate_left
  · (intro w hSw; go_simp; first | done | with_reducible rfl)
  try simp only [Act.put, List.setIfInBounds_toArray, List.set_cons_zero, List.set_cons_succ]
  refine seqH_take (yieldsIf_load_mid (by rfl) _ _ rfl _ _ rfl _ _ (fun w hw => hrg w hw) hu rfl hi) ?_
  try simp only [Act.put, List.setIfInBounds_toArray, List.set_cons_zero, List.set_cons_succ, rowB_back]
  refine seqH_go (fun K hK => ?_)
  rw [if_pos (by rfl)]
  go_simp
  refine hK.out _ _ (below_allocS hHeld _) (fun hHeld2 => ?_)
  clear hK K hHeld
  have hHeld := hHeld2
  clear hHeld2
  try simp only [Act.put, List.setIfInBounds_toArray, List.set_cons_zero, List.set_cons_succ]
  refine seqH_go (fun K hK => ?_)
  rw [if_pos (by rfl)]
  go_simp
  refine (sum_one _ l.flatten _ (brows_one (heap_alloc_new _ _) (HV2.out.below hHeld)) (by omega)).mono ?_; rintro e w5 ⟨rfl, hbc⟩
  try dsimp only
  refine hK.out _ _ (below_keep hHeld hbc) (fun hHeld2 => ?_)
  clear hK K hHeld
  have hHeld := hHeld2
  clear hHeld2
  try simp only [Act.put, List.setIfInBounds_toArray, List.set_cons_zero, List.set_cons_succ]
  refine seqH_take (v := ?_) (Or.inl ⟨by rfl, ?_⟩) ?_
  rotate_left
  · (intro w hSw; go_simp; first | done | with_reducible rfl)
  try simp only [Act.put, List.setIfInBounds_toArray, List.set_cons_zero, List.set_cons_succ]
  refine seqH_take (v := ?_) (Or.inl ⟨by rfl, ?_⟩) ?_
  rotate_left
  · (intro w hSw; go_simp; first | done | with_reducible rfl)
  try simp only [Act.put, List.setIfInBounds_toArray, List.set_cons_zero, List.set_cons_succ]
  refine seqH_take (v := ?_) (Or.inl ⟨by rfl, ?_⟩) ?_
  rotate_left
  · (intro w hSw; go_simp; first | done | with_reducible rfl)
  try simp only [Act.put, List.setIfInBounds_toArray, List.set_cons_zero, List.set_cons_succ]
  refine seqH_nil (NoPanic.normal ?_)
  go_wp2
  go_ret
  exact ⟨rfl, HW.out.trans (hHeld.mono HW.out.size)⟩

set_option maxHeartbeats 400000 in
theorem shaSums_out (v : Value) (l : List (List (BitVec 8))) (w : World) (hv : BRows w v l) (hbig : bigB l = true) :
    Calls Tryd.prog 3 #[v] w fun e w' => e = .returned (.bool true) ∧ Below w.heap.size w w' := by
  have HV := Lib.hid hv
  have HBIG := Lib.hid hbig
  obtain ⟨a, c, rfl⟩ := hv.shape
  clear hv hbig
  go_enter Tryd.func3, Tryd.ntmps3
  go_wp2_with (first
    | (go_at_call 21; refine (alive5_any _).mono ?_; rintro e w1 ⟨rfl, hb1⟩)
    | (go_at_call 22; refine (big_any _ l _ (HV.out.below hb1)).mono ?_; rintro e w' ⟨rfl, rfl⟩; rw [HBIG.out]))
  go_ret
  exact ⟨rfl, hb1⟩
theorem shaSums_walk {w : World} (v : Value) (l : List (List (BitVec 8))) (hv : BRows w v l) (_h1 : l.length ≤ maxLen) (_h2 : ∀ m ∈ l, m.length ≤ maxLen) (hk : KAt w) :
    Calls Tryd.prog 3 #[v] w fun e w' => e = .returned (.bool true) ∧ Below w.heap.size w w' := by
  cases h : bigB l with
  | true => exact shaSums_out v l w hv h
  | false => exact shaSums_in v l w hv hk h

theorem brow_row {w : World} {g n c : Nat} {f : Nat → BitVec 8} {t : TypeId} {fr : Nat × Nat} (h : w.heap[g]? = some (.cells (rowB n f) t fr)) : BRow w (.slice (some ⟨g, 0, none⟩) n c) ((List.range n).map f) :=
  ⟨some ⟨g, 0, none⟩, c, by rw [List.length_map, List.length_range], (fun hc => by cases hc), fun _ => ⟨g, 0, rfl, (Array.getElem?_eq_some_iff.1 h).1, fun i hi => by
    have hi' : i < n := by simpa using hi
    rw [Nat.zero_add, cell_rowB h hi']
    simp⟩⟩

theorem B8_add (a b : BitVec 8) : IntKind.u8.wrap (B8 a + B8 b) = B8 (a + b) := by
  unfold B8; rw [IntKind.wrap_u8', BitVec.toNat_add]; omega
theorem B8_add' (a b : BitVec 8) : (B8 a + B8 b) % (256 : Int) = B8 (a + b) := by
  unfold B8; rw [BitVec.toNat_add]; omega
theorem B8_of (k : Nat) : (k : Int) % (256 : Int) = B8 (BitVec.ofNat 8 k) := by
  unfold B8; rw [BitVec.toNat_ofNat]; omega
theorem B8_of' (k : Nat) : IntKind.u8.wrap (k : Int) = B8 (BitVec.ofNat 8 k) := by
  rw [IntKind.wrap_u8', B8_of]

/-- The first k bytes. -/
def upTo (f : Nat → BitVec 8) (k : Nat) : Nat → BitVec 8 := fun i => if i < k then f i else 0
theorem upTo_step (f : Nat → BitVec 8) (k : Nat) : upd (upTo f k) k (f k) = upTo f (k + 1) := by
  funext i
  unfold upd upTo
  by_cases e : i = k
  · subst e; simp
  · rw [if_neg e]
    by_cases hi : i < k
    · rw [if_pos hi, if_pos (by omega)]
    · rw [if_neg hi, if_neg (by omega)]
theorem upTo_zero (f : Nat → BitVec 8) : upTo f 0 = fun _ => 0 := by funext i; simp [upTo]

set_option maxRecDepth 100000 in
set_option maxHeartbeats 1000000 in
theorem shaLengths_in (n : Nat) (v : BitVec 8) (w : World) (hn : (n : Int) ≤ 1000) (hk : KAt w) :
    Calls Tryd.prog 4 #[.int .i64 n, .int .u8 (B8 v)] w fun e w' => e = .returned (.bool true) ∧ Below w.heap.size w w' := by
  have HK := Lib.hid hk
  clear hk
  have hmk := make_B n (by omega)
  have heq := eqlNum
  have hself := eqB_self
  have hn0 : (0 : Int) ≤ (n : Int) := by omega
  go_enter Tryd.func4, Tryd.ntmps4
  go_wp2_with (first
    | (go_at_call 21; refine (alive5_any _).mono ?_; rintro e w1 ⟨rfl, hb1⟩))
  have HB := Lib.hid (below_allocS hb1 (.cells (rowB n fun _ => 0) 5))
  have HG := Lib.hid (show (w1.alloc (.cells (rowB n fun _ => 0) 5)).heap[w1.heap.size]? = some (.cells (rowB n (upTo (fun i => v + BitVec.ofNat 8 i) 0)) 5 (0, 0)) by rw [upTo_zero]; exact heap_alloc_new _ _)
  have hlt := hb1.size
  clear hb1 hmk
  generalize w1.alloc (.cells (rowB n fun _ => 0) 5) = w2 at *
  generalize w1.heap.size = g at *
  go_loopw [7] (fun i wr => ∃ k : Nat, k ≤ n ∧ i = .int .i64 k ∧ wr.heap[g]? = some (.cells (rowB n (upTo (fun i => v + BitVec.ofNat 8 i) k)) 5 (0, 0)) ∧ Below w.heap.size w wr) (fun i _ => n - (intOf i).toNat)
  case atStart => exact ⟨0, Nat.zero_le _, rfl, HG.out, HB.out⟩
  case round =>
    clear HB HG
    obtain ⟨k, hkn, rfl, hg, hb⟩ := hrel
    by_cases hl : k < n
    · have hk0 : (0 : Int) ≤ (k : Int) := by omega
      have hk1 : (k : Int) < (n : Int) := by omega
      have hc : wr.cell? ⟨g, k, none⟩ = some (.int .u8 (B8 (upTo (fun i => v + BitVec.ofNat 8 i) k k))) := cell_rowB hg hl
      have hf : wr.frozen? ⟨g, k, none⟩ = false := frozen_of_row wr _ _ _ _ hg
      have HG := Lib.hid hg
      have HB := Lib.hid hb
      have HST := Lib.hid (upTo_step (fun i => v + BitVec.ofNat 8 i) k)
      clear hg hb
      have h1 := B8_add
      have h2 := B8_add'
      have h3 := B8_of k
      have h4 := B8_of' k
      go_wp2
      go_roundw
      case rel =>
        refine ⟨k + 1, by omega, by go_num, ?_, HB.out.setCell hlt _⟩
        rw [heap_set_rowB _ HG.out hl, HST.out]
      case measure => simp [intOf]; omega
    · have hkn : k = n := by omega
      subst hkn
      have HR := Lib.hid (brow_row (c := k) hg)
      have HB := Lib.hid hb
      have hlen : ((List.range k).map (upTo (fun i => v + BitVec.ofNat 8 i) k)).length ≤ 1000000000 := by simp; omega
      clear hg hb
      generalize (List.range k).map (upTo (fun i => v + BitVec.ofNat 8 i) k) = m at *
      go_wp2_with (first
        | (go_at_call 25; refine (sum_one _ m _ (brows_one (heap_alloc_new _ _) (HR.out.below ((Below.refl _ _).alloc (Nat.le_refl _) _))) hlen).mono ?_; rintro e w4 ⟨rfl, hb4⟩)
        | (go_at_call 24; refine (refSha_any _ m _ (HR.out.below (below_keep ((Below.refl _ _).alloc (Nat.le_refl _) _) hb4)) hlen (HK.out.below (below_keep (below_allocS HB.out _) hb4))).mono ?_; rintro e w5 ⟨rfl, hb5⟩))
      go_ret
      exact ⟨rfl, below_keep (below_keep (below_allocS HB.out _) hb4) hb5⟩

set_option maxHeartbeats 400000 in
theorem shaLengths_out (n v : Int) (w : World) (h : n < 0 ∨ 1000 < n) :
    Calls Tryd.prog 4 #[.int .i64 n, .int .u8 v] w fun e w' => e = .returned (.bool true) ∧ Below w.heap.size w w' := by
  by_cases h0 : n < 0
  · clear h
    go_enter Tryd.func4, Tryd.ntmps4
    go_wp2_with (first
      | (go_at_call 21; refine (alive5_any _).mono ?_; rintro e w1 ⟨rfl, hb1⟩))
    go_ret
    exact ⟨rfl, hb1⟩
  · have h1 : 1000 < n := by omega
    clear h
    go_enter Tryd.func4, Tryd.ntmps4
    go_wp2_with (first
      | (go_at_call 21; refine (alive5_any _).mono ?_; rintro e w1 ⟨rfl, hb1⟩))
    go_ret
    exact ⟨rfl, hb1⟩
theorem shaLengths_walk {w : World} (n : Int) (_hn : -9223372036854775808 ≤ n ∧ n ≤ 9223372036854775807) (v : BitVec 8) (hk : KAt w) :
    Calls Tryd.prog 4 #[.int .i64 n, .int .u8 (B8 v)] w fun e w' => e = .returned (.bool true) ∧ Below w.heap.size w w' := by
  by_cases h : n < 0 ∨ 1000 < n
  · exact shaLengths_out _ _ _ h
  · obtain ⟨n, rfl⟩ := Int.eq_ofNat_of_zero_le (show 0 ≤ n by omega)
    exact shaLengths_in n v w (by omega) hk

end Go.Proofs.YtnnllficjljjkaaDoor
