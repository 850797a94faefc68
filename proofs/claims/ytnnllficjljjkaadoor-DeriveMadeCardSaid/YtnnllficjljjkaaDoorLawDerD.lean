/-
  The walk of the law DeriveExpands.
-/
import Derived.Test.YtnnllficjljjkaaDoorLawDerA
namespace Go.Proofs.YtnnllficjljjkaaDoor
open Go.RowKit
set_option linter.unusedVariables false
set_option linter.unusedSimpArgs false

theorem wp_str {o : Oper} {a : Act} {w : World} {K : Act → World → Prop} {Q : Exit → Act → World → Prop} (x : Operand) (ho : o.op = .convert 25 9 x) (l : List (BitVec 8))
    (hx : BRow w (a.eval x) l) (h : K (a.put o.dst (.string (strB l))) w) : o.wp Tryd.prog a w K Q := by
  have hs := run_string (P := Tryd.prog) hx Tryd.underlying25 Tryd.underlying5 Tryd.underlying9
  unfold Oper.wp execOp
  simp only [ho, Sem.run_bind, hs, Result.andThen_ok, Sem.run_pure]
  exact h

set_option maxRecDepth 100000 in
set_option maxHeartbeats 2000000 in
theorem deriveExpands_neg (a a2 a3 : Option Addr) (c c2 c3 : Nat) (salt key info : List (BitVec 8)) (n : Int) (w : World) (hv : BRow w (.slice a salt.length c) salt) (hvb : BRow w (.slice a2 key.length c2) key) (hvc : BRow w (.slice a3 info.length c3) info) (hs : salt.length ≤ 300) (hk : key.length ≤ 300) (hi : info.length ≤ 300)
    (hn : n < 0) (hka : KAt w) :
    Calls Tryd.prog 16 #[.slice a salt.length c, .slice a2 key.length c2, .slice a3 info.length c3, .int .i64 n] w fun e w' => e = .returned (.bool true) ∧ Below w.heap.size w w' := by
  have hz1 : ((300 : Int) < (salt.length : Int)) = False := eq_false (by omega)
  have hz2 : ((300 : Int) < (key.length : Int)) = False := eq_false (by omega)
  have hz3 : ((300 : Int) < (info.length : Int)) = False := eq_false (by omega)
  obtain ⟨p, hp⟩ : ∃ s, s = macS salt key := ⟨_, rfl⟩
  have HE1 := Lib.hid (show ∀ (v vb : Value) (w : World), BRow w v salt → BRow w vb key → Calls Tryd.prog 39 #[v, vb] w fun e w' => e = .returned (.agg (rowB 32 p)) ∧ Below w.heap.size w w' from fun v vb w h1 h2 => by
    rw [hp]; exact extract_any v vb salt key w h1 h2 (by omega) (by omega))
  have HE2 := Lib.hid (show ∀ (v vb : Value) (w : World), BRow w v salt → BRow w vb key → KAt w → Calls Tryd.prog 40 #[v, vb] w fun e w' => e = .returned (.agg (rowB 32 p)) ∧ Below w.heap.size w w' from fun v vb w h1 h2 h3 => by
    rw [hp]; exact refExtract_any v vb salt key w h1 h2 (by omega) (by omega) h3)
  have HV := Lib.hid hv
  have HVB := Lib.hid hvb
  have HVC := Lib.hid hvc
  have HK := Lib.hid hka
  have HIL := Lib.hid hi
  have HZ := Lib.hid (show (Tryd.prog.info? 28).map (·.size) = some (rowB 32 p).size by rw [size32, rowB_size])
  clear hv hvb hvc hs hk hi hka hp
  go_enter Tryd.func16, Tryd.ntmps16
  go_wp2_with (first
    | (go_at_call 34; refine (alive8_any _ HK.out).mono ?_; rintro e w2 ⟨rfl, hb2⟩; have HB2 := Lib.hid hb2; clear hb2)
    | (go_at_call 39; refine (HE1.out _ _ _ (HV.out.below HB2.out) (HVB.out.below HB2.out)).mono ?_; rintro e w3 ⟨rfl, hb3⟩; have HB3 := Lib.hid (below_keep HB2.out hb3); clear hb3)
    | (with_reducible refine wpList_alloc_row rfl 28 rfl 32 _ info32 ?_)
    | ((with_reducible show wpList _ _ _ (⟨_, .store 28 _ _, _, _, _, _⟩ :: _) _ _); refine wpList_store_rowTo rfl 28 _ _ rfl rfl w3.heap.size (rowB 32 p) rfl rfl 28 _ (heap_alloc_new _ _) HZ.out (by rw [row_size, rowB_size]) (rowB_oneCell _ _) ?_; obtain ⟨g, eg⟩ : ∃ g, g = w3.heap.size := ⟨_, rfl⟩; have HB4 := Lib.hid (show Below w.heap.size w ((w3.alloc (.cells (row 32 fun _ => .int .u8 0) 28)).setRow w3.heap.size (rowB 32 p)) from below_setRow (below_allocS HB3.out _) HB3.out.size _); have HG4 := Lib.hid (show ((w3.alloc (.cells (row 32 fun _ => .int .u8 0) 28)).setRow w3.heap.size (rowB 32 p)).heap[g]? = some (.cells (rowB 32 p) 28 (0, 0)) from by rw [eg]; exact heap_setRow_at (heap_alloc_new _ _)); generalize (w3.alloc (.cells (row 32 fun _ => .int .u8 0) 28)).setRow w3.heap.size (rowB 32 p) = w4 at *; rw [← eg]; clear eg)
    | ((with_reducible show wpList _ _ _ (⟨_, .load 28 _, _, _, _, _⟩ :: _) _ _); refine wpList_load_row rfl 28 _ rfl g rfl 28 (rowB 32 p) (0, 0) _ HG4.out Tryd.underlying28 rfl HZ.out ?_)
    | (go_at_call 37; refine (expand_bad p _ n _ (.inl hn)).mono ?_; rintro e w5 ⟨rfl, hb5⟩; have HB5 := Lib.hid (below_keep HB4.out hb5); have HG5 := Lib.hid ((hb5.block _ (Array.getElem?_eq_some_iff.1 HG4.out).1).trans HG4.out); clear hb5))
  have hrg := range_num HG5.out
  have hu := Tryd.underlying28
  have hi : (Tryd.prog.info? 28).map (·.size) = some (rowB 32 p).toList.length := by rw [size32]; simp [rowB_size]
  refine wp_region_plan (S := fun w' => Below w5.heap.size w5 w') [0, 1, 2, 3, 4, 5, 6, 7, 8, 9, 10, 11, 12, 13, 14, 15] [true, true, true, false, true, true, true, false, true, true, true, true, true, true, true, true] (by kernel_rfl) (by kernel_rfl) (Below.refl _ _).drew (fun hHeld => ?_)
  simp only [List.filterMap_cons, List.filterMap_nil, List.getElem?_toArray, List.getElem?_cons_zero, List.getElem?_cons_succ]
  refine seqH_take (yieldsIf_load_mid (by rfl) _ _ rfl _ _ rfl _ _ (fun w hw => hrg w hw) hu rfl hi) ?_
  try simp only [Act.put, List.setIfInBounds_toArray, List.set_cons_zero, List.set_cons_succ, rowB_back]
  refine seqH_take (v := ?_) (Or.inl ⟨by rfl, ?_⟩) ?_
  rotate_left
  · (intro w hSw; go_simp; first | done | with_reducible rfl)
  try simp only [Act.put, List.setIfInBounds_toArray, List.set_cons_zero, List.set_cons_succ]
  refine seqH_take (v := ?_) (Or.inl ⟨by rfl, ?_⟩) ?_
  rotate_left
  · (intro w hSw; go_simp; first | done | with_reducible rfl)
  try simp only [Act.put, List.setIfInBounds_toArray, List.set_cons_zero, List.set_cons_succ]
  refine seqH_go (fun K hK => ?_)
  rw [if_pos (by rfl)]
  go_simp
  refine (HE2.out _ _ _ (HV.out.below (below_keep HB5.out hHeld)) (HVB.out.below (below_keep HB5.out hHeld)) (HK.out.below (below_keep HB5.out hHeld))).mono ?_; rintro e w6 ⟨rfl, hbc⟩
  try dsimp only
  refine hK.out _ _ (below_keep hHeld hbc) (fun hHeld2 => ?_)
  clear hK K hHeld
  have hHeld := hHeld2
  clear hHeld2
  try simp only [Act.put, List.setIfInBounds_toArray, List.set_cons_zero, List.set_cons_succ]
  refine seqH_take (yieldsIf_eqNum (by rfl) _ _ rfl p p rfl rfl true (eqB_self p)) ?_
  try simp only [Act.put, List.setIfInBounds_toArray, List.set_cons_zero, List.set_cons_succ]
  refine seqH_take (v := ?_) (Or.inl ⟨by rfl, ?_⟩) ?_
  rotate_left
  · (intro w hSw; go_simp; first | done | with_reducible rfl)
  try simp only [Act.put, List.setIfInBounds_toArray, List.set_cons_zero, List.set_cons_succ]
  refine seqH_take (v := ?_) (Or.inl ⟨by rfl, ?_⟩) ?_
  rotate_left
  · (intro w hSw; go_simp; first | done | with_reducible rfl)
  try simp only [Act.put, List.setIfInBounds_toArray, List.set_cons_zero, List.set_cons_succ]
  refine seqH_go (fun K hK => ?_)
  rw [if_pos (by rfl)]
  go_simp
  refine (num8_any 1 _).mono ?_; rintro e w7 ⟨rfl, rfl⟩
  try dsimp only
  refine hK.out _ _ hHeld (fun hHeld2 => ?_)
  clear hK K hHeld
  have hHeld := hHeld2
  clear hHeld2
  try simp only [Act.put, List.setIfInBounds_toArray, List.set_cons_zero, List.set_cons_succ]
  refine seqH_take (v := ?_) (Or.inl ⟨by rfl, ?_⟩) ?_
  rotate_left
  · (intro w hSw; go_simp; first | done | with_reducible rfl)
  try simp only [Act.put, List.setIfInBounds_toArray, List.set_cons_zero, List.set_cons_succ]
  refine seqH_take (v := ?_) (Or.inl ⟨by rfl, ?_⟩) ?_
  rotate_left
  · (intro w hSw; go_simp; first | done | with_reducible rfl)
  try simp only [Act.put, List.setIfInBounds_toArray, List.set_cons_zero, List.set_cons_succ]
  refine seqH_take (v := ?_) (Or.inl ⟨by rfl, ?_⟩) ?_
  rotate_left
  · (intro w hSw; go_simp; first | done | with_reducible rfl)
  try simp only [Act.put, List.setIfInBounds_toArray, List.set_cons_zero, List.set_cons_succ]
  refine seqH_take (v := ?_) (Or.inl ⟨by rfl, ?_⟩) ?_
  rotate_left
  · (intro w hSw; go_simp; first | done | with_reducible rfl)
  try simp only [Act.put, List.setIfInBounds_toArray, List.set_cons_zero, List.set_cons_succ]
  refine seqH_take (v := ?_) (Or.inl ⟨by rfl, ?_⟩) ?_
  rotate_left
  · (intro w hSw; go_simp; first | done | with_reducible rfl)
  try simp only [Act.put, List.setIfInBounds_toArray, List.set_cons_zero, List.set_cons_succ]
  refine seqH_take (v := ?_) (Or.inl ⟨by rfl, ?_⟩) ?_
  rotate_left
  · (intro w hSw; go_simp; first | done | with_reducible rfl)
  try simp only [Act.put, List.setIfInBounds_toArray, List.set_cons_zero, List.set_cons_succ]
  refine seqH_take (v := ?_) (Or.inl ⟨by rfl, ?_⟩) ?_
  rotate_left
  · (intro w hSw; go_simp; first | done | with_reducible rfl)
  try simp only [Act.put, List.setIfInBounds_toArray, List.set_cons_zero, List.set_cons_succ]
  refine seqH_take (v := ?_) (Or.inl ⟨by rfl, ?_⟩) ?_
  rotate_left
  · (intro w hSw; go_simp; first | done | with_reducible rfl)
  try simp only [Act.put, List.setIfInBounds_toArray, List.set_cons_zero, List.set_cons_succ]
  refine seqH_nil (NoPanic.normal ?_)
  clear hrg hu hi
  go_wp2
  go_ret
  exact ⟨rfl, below_keep HB5.out hHeld⟩

set_option maxRecDepth 100000 in
set_option maxHeartbeats 2000000 in
theorem deriveExpands_big (a a2 a3 : Option Addr) (c c2 c3 : Nat) (salt key info : List (BitVec 8)) (n : Int) (w : World) (hv : BRow w (.slice a salt.length c) salt) (hvb : BRow w (.slice a2 key.length c2) key) (hvc : BRow w (.slice a3 info.length c3) info) (hs : salt.length ≤ 300) (hk : key.length ≤ 300) (hi : info.length ≤ 300)
    (hn : 8160 < n) (hka : KAt w) :
    Calls Tryd.prog 16 #[.slice a salt.length c, .slice a2 key.length c2, .slice a3 info.length c3, .int .i64 n] w fun e w' => e = .returned (.bool true) ∧ Below w.heap.size w w' := by
  have hz1 : ((300 : Int) < (salt.length : Int)) = False := eq_false (by omega)
  have hz2 : ((300 : Int) < (key.length : Int)) = False := eq_false (by omega)
  have hz3 : ((300 : Int) < (info.length : Int)) = False := eq_false (by omega)
  obtain ⟨p, hp⟩ : ∃ s, s = macS salt key := ⟨_, rfl⟩
  have HE1 := Lib.hid (show ∀ (v vb : Value) (w : World), BRow w v salt → BRow w vb key → Calls Tryd.prog 39 #[v, vb] w fun e w' => e = .returned (.agg (rowB 32 p)) ∧ Below w.heap.size w w' from fun v vb w h1 h2 => by
    rw [hp]; exact extract_any v vb salt key w h1 h2 (by omega) (by omega))
  have HE2 := Lib.hid (show ∀ (v vb : Value) (w : World), BRow w v salt → BRow w vb key → KAt w → Calls Tryd.prog 40 #[v, vb] w fun e w' => e = .returned (.agg (rowB 32 p)) ∧ Below w.heap.size w w' from fun v vb w h1 h2 h3 => by
    rw [hp]; exact refExtract_any v vb salt key w h1 h2 (by omega) (by omega) h3)
  have HV := Lib.hid hv
  have HVB := Lib.hid hvb
  have HVC := Lib.hid hvc
  have HK := Lib.hid hka
  have HIL := Lib.hid hi
  have HZ := Lib.hid (show (Tryd.prog.info? 28).map (·.size) = some (rowB 32 p).size by rw [size32, rowB_size])
  clear hv hvb hvc hs hk hi hka hp
  go_enter Tryd.func16, Tryd.ntmps16
  go_wp2_with (first
    | (go_at_call 34; refine (alive8_any _ HK.out).mono ?_; rintro e w2 ⟨rfl, hb2⟩; have HB2 := Lib.hid hb2; clear hb2)
    | (go_at_call 39; refine (HE1.out _ _ _ (HV.out.below HB2.out) (HVB.out.below HB2.out)).mono ?_; rintro e w3 ⟨rfl, hb3⟩; have HB3 := Lib.hid (below_keep HB2.out hb3); clear hb3)
    | (with_reducible refine wpList_alloc_row rfl 28 rfl 32 _ info32 ?_)
    | ((with_reducible show wpList _ _ _ (⟨_, .store 28 _ _, _, _, _, _⟩ :: _) _ _); refine wpList_store_rowTo rfl 28 _ _ rfl rfl w3.heap.size (rowB 32 p) rfl rfl 28 _ (heap_alloc_new _ _) HZ.out (by rw [row_size, rowB_size]) (rowB_oneCell _ _) ?_; obtain ⟨g, eg⟩ : ∃ g, g = w3.heap.size := ⟨_, rfl⟩; have HB4 := Lib.hid (show Below w.heap.size w ((w3.alloc (.cells (row 32 fun _ => .int .u8 0) 28)).setRow w3.heap.size (rowB 32 p)) from below_setRow (below_allocS HB3.out _) HB3.out.size _); have HG4 := Lib.hid (show ((w3.alloc (.cells (row 32 fun _ => .int .u8 0) 28)).setRow w3.heap.size (rowB 32 p)).heap[g]? = some (.cells (rowB 32 p) 28 (0, 0)) from by rw [eg]; exact heap_setRow_at (heap_alloc_new _ _)); generalize (w3.alloc (.cells (row 32 fun _ => .int .u8 0) 28)).setRow w3.heap.size (rowB 32 p) = w4 at *; rw [← eg]; clear eg)
    | ((with_reducible show wpList _ _ _ (⟨_, .load 28 _, _, _, _, _⟩ :: _) _ _); refine wpList_load_row rfl 28 _ rfl g rfl 28 (rowB 32 p) (0, 0) _ HG4.out Tryd.underlying28 rfl HZ.out ?_)
    | (go_at_call 37; refine (expand_bad p _ n _ (.inr hn)).mono ?_; rintro e w5 ⟨rfl, hb5⟩; have HB5 := Lib.hid (below_keep HB4.out hb5); have HG5 := Lib.hid ((hb5.block _ (Array.getElem?_eq_some_iff.1 HG4.out).1).trans HG4.out); clear hb5))
  have hrg := range_num HG5.out
  have hu := Tryd.underlying28
  have hi : (Tryd.prog.info? 28).map (·.size) = some (rowB 32 p).toList.length := by rw [size32]; simp [rowB_size]
  refine wp_region_plan (S := fun w' => Below w5.heap.size w5 w') [0, 1, 2, 3, 4, 5, 6, 7, 8, 9, 10, 11, 12, 13, 14, 15] [true, true, true, false, true, true, true, false, true, true, true, true, true, true, true, true] (by kernel_rfl) (by kernel_rfl) (Below.refl _ _).drew (fun hHeld => ?_)
  simp only [List.filterMap_cons, List.filterMap_nil, List.getElem?_toArray, List.getElem?_cons_zero, List.getElem?_cons_succ]
  refine seqH_take (yieldsIf_load_mid (by rfl) _ _ rfl _ _ rfl _ _ (fun w hw => hrg w hw) hu rfl hi) ?_
  try simp only [Act.put, List.setIfInBounds_toArray, List.set_cons_zero, List.set_cons_succ, rowB_back]
  refine seqH_take (v := ?_) (Or.inl ⟨by rfl, ?_⟩) ?_
  rotate_left
  · (intro w hSw; go_simp; first | done | with_reducible rfl)
  try simp only [Act.put, List.setIfInBounds_toArray, List.set_cons_zero, List.set_cons_succ]
  refine seqH_take (v := ?_) (Or.inl ⟨by rfl, ?_⟩) ?_
  rotate_left
  · (intro w hSw; go_simp; first | done | with_reducible rfl)
  try simp only [Act.put, List.setIfInBounds_toArray, List.set_cons_zero, List.set_cons_succ]
  refine seqH_go (fun K hK => ?_)
  rw [if_pos (by rfl)]
  go_simp
  refine (HE2.out _ _ _ (HV.out.below (below_keep HB5.out hHeld)) (HVB.out.below (below_keep HB5.out hHeld)) (HK.out.below (below_keep HB5.out hHeld))).mono ?_; rintro e w6 ⟨rfl, hbc⟩
  try dsimp only
  refine hK.out _ _ (below_keep hHeld hbc) (fun hHeld2 => ?_)
  clear hK K hHeld
  have hHeld := hHeld2
  clear hHeld2
  try simp only [Act.put, List.setIfInBounds_toArray, List.set_cons_zero, List.set_cons_succ]
  refine seqH_take (yieldsIf_eqNum (by rfl) _ _ rfl p p rfl rfl true (eqB_self p)) ?_
  try simp only [Act.put, List.setIfInBounds_toArray, List.set_cons_zero, List.set_cons_succ]
  refine seqH_take (v := ?_) (Or.inl ⟨by rfl, ?_⟩) ?_
  rotate_left
  · (intro w hSw; go_simp; first | done | with_reducible rfl)
  try simp only [Act.put, List.setIfInBounds_toArray, List.set_cons_zero, List.set_cons_succ]
  refine seqH_take (v := ?_) (Or.inl ⟨by rfl, ?_⟩) ?_
  rotate_left
  · (intro w hSw; go_simp; first | done | with_reducible rfl)
  try simp only [Act.put, List.setIfInBounds_toArray, List.set_cons_zero, List.set_cons_succ]
  refine seqH_go (fun K hK => ?_)
  rw [if_pos (by rfl)]
  go_simp
  refine (num8_any 1 _).mono ?_; rintro e w7 ⟨rfl, rfl⟩
  try dsimp only
  refine hK.out _ _ hHeld (fun hHeld2 => ?_)
  clear hK K hHeld
  have hHeld := hHeld2
  clear hHeld2
  try simp only [Act.put, List.setIfInBounds_toArray, List.set_cons_zero, List.set_cons_succ]
  refine seqH_take (v := ?_) (Or.inl ⟨by rfl, ?_⟩) ?_
  rotate_left
  · (intro w hSw; go_simp; first | done | with_reducible rfl)
  try simp only [Act.put, List.setIfInBounds_toArray, List.set_cons_zero, List.set_cons_succ]
  refine seqH_take (v := ?_) (Or.inl ⟨by rfl, ?_⟩) ?_
  rotate_left
  · (intro w hSw; go_simp; first | done | with_reducible rfl)
  try simp only [Act.put, List.setIfInBounds_toArray, List.set_cons_zero, List.set_cons_succ]
  refine seqH_take (v := ?_) (Or.inl ⟨by rfl, ?_⟩) ?_
  rotate_left
  · (intro w hSw; go_simp; first | done | with_reducible rfl)
  try simp only [Act.put, List.setIfInBounds_toArray, List.set_cons_zero, List.set_cons_succ]
  refine seqH_take (v := ?_) (Or.inl ⟨by rfl, ?_⟩) ?_
  rotate_left
  · (intro w hSw; go_simp; first | done | with_reducible rfl)
  try simp only [Act.put, List.setIfInBounds_toArray, List.set_cons_zero, List.set_cons_succ]
  refine seqH_take (v := ?_) (Or.inl ⟨by rfl, ?_⟩) ?_
  rotate_left
  · (intro w hSw; go_simp; first | done | with_reducible rfl)
  try simp only [Act.put, List.setIfInBounds_toArray, List.set_cons_zero, List.set_cons_succ]
  refine seqH_take (v := ?_) (Or.inl ⟨by rfl, ?_⟩) ?_
  rotate_left
  · (intro w hSw; go_simp; first | done | with_reducible rfl)
  try simp only [Act.put, List.setIfInBounds_toArray, List.set_cons_zero, List.set_cons_succ]
  refine seqH_take (v := ?_) (Or.inl ⟨by rfl, ?_⟩) ?_
  rotate_left
  · (intro w hSw; go_simp; first | done | with_reducible rfl)
  try simp only [Act.put, List.setIfInBounds_toArray, List.set_cons_zero, List.set_cons_succ]
  refine seqH_take (v := ?_) (Or.inl ⟨by rfl, ?_⟩) ?_
  rotate_left
  · (intro w hSw; go_simp; first | done | with_reducible rfl)
  try simp only [Act.put, List.setIfInBounds_toArray, List.set_cons_zero, List.set_cons_succ]
  refine seqH_nil (NoPanic.normal ?_)
  clear hrg hu hi
  go_wp2
  go_ret
  exact ⟨rfl, below_keep HB5.out hHeld⟩

set_option maxRecDepth 100000 in
set_option maxHeartbeats 2000000 in
theorem deriveExpands_ok (a a2 a3 : Option Addr) (c c2 c3 : Nat) (salt key info : List (BitVec 8)) (n : Nat) (w : World) (hv : BRow w (.slice a salt.length c) salt) (hvb : BRow w (.slice a2 key.length c2) key) (hvc : BRow w (.slice a3 info.length c3) info) (hs : salt.length ≤ 300) (hk : key.length ≤ 300) (hi : info.length ≤ 300)
    (hn : n ≤ 2000) (hka : KAt w) :
    Calls Tryd.prog 16 #[.slice a salt.length c, .slice a2 key.length c2, .slice a3 info.length c3, .int .i64 (n : Int)] w fun e w' => e = .returned (.bool true) ∧ Below w.heap.size w w' := by
  have hz1 : ((300 : Int) < (salt.length : Int)) = False := eq_false (by omega)
  have hz2 : ((300 : Int) < (key.length : Int)) = False := eq_false (by omega)
  have hz3 : ((300 : Int) < (info.length : Int)) = False := eq_false (by omega)
  obtain ⟨p, hp⟩ : ∃ s, s = macS salt key := ⟨_, rfl⟩
  have HE1 := Lib.hid (show ∀ (v vb : Value) (w : World), BRow w v salt → BRow w vb key → Calls Tryd.prog 39 #[v, vb] w fun e w' => e = .returned (.agg (rowB 32 p)) ∧ Below w.heap.size w w' from fun v vb w h1 h2 => by
    rw [hp]; exact extract_any v vb salt key w h1 h2 (by omega) (by omega))
  have HE2 := Lib.hid (show ∀ (v vb : Value) (w : World), BRow w v salt → BRow w vb key → KAt w → Calls Tryd.prog 40 #[v, vb] w fun e w' => e = .returned (.agg (rowB 32 p)) ∧ Below w.heap.size w w' from fun v vb w h1 h2 h3 => by
    rw [hp]; exact refExtract_any v vb salt key w h1 h2 (by omega) (by omega) h3)
  have HV := Lib.hid hv
  have HVB := Lib.hid hvb
  have HVC := Lib.hid hvc
  have HK := Lib.hid hka
  have HIL := Lib.hid hi
  have HZ := Lib.hid (show (Tryd.prog.info? 28).map (·.size) = some (rowB 32 p).size by rw [size32, rowB_size])
  clear hv hvb hvc hs hk hi hka hp
  have hn0 : (0 : Int) ≤ (n : Int) := by omega
  have hn1 : (n : Int) ≤ 2000 := by omega
  have HN := Lib.hid hn
  clear hn
  go_enter Tryd.func16, Tryd.ntmps16
  go_wp2_with (first
    | (go_at_call 34; refine (alive8_any _ HK.out).mono ?_; rintro e w2 ⟨rfl, hb2⟩; have HB2 := Lib.hid hb2; clear hb2)
    | (go_at_call 39; refine (HE1.out _ _ _ (HV.out.below HB2.out) (HVB.out.below HB2.out)).mono ?_; rintro e w3 ⟨rfl, hb3⟩; have HB3 := Lib.hid (below_keep HB2.out hb3); clear hb3)
    | (with_reducible refine wpList_alloc_row rfl 28 rfl 32 _ info32 ?_)
    | ((with_reducible show wpList _ _ _ (⟨_, .store 28 _ _, _, _, _, _⟩ :: _) _ _); refine wpList_store_rowTo rfl 28 _ _ rfl rfl w3.heap.size (rowB 32 p) rfl rfl 28 _ (heap_alloc_new _ _) HZ.out (by rw [row_size, rowB_size]) (rowB_oneCell _ _) ?_; obtain ⟨g, eg⟩ : ∃ g, g = w3.heap.size := ⟨_, rfl⟩; have HB4 := Lib.hid (show Below w.heap.size w ((w3.alloc (.cells (row 32 fun _ => .int .u8 0) 28)).setRow w3.heap.size (rowB 32 p)) from below_setRow (below_allocS HB3.out _) HB3.out.size _); have HG4 := Lib.hid (show ((w3.alloc (.cells (row 32 fun _ => .int .u8 0) 28)).setRow w3.heap.size (rowB 32 p)).heap[g]? = some (.cells (rowB 32 p) 28 (0, 0)) from by rw [eg]; exact heap_setRow_at (heap_alloc_new _ _)); generalize (w3.alloc (.cells (row 32 fun _ => .int .u8 0) 28)).setRow w3.heap.size (rowB 32 p) = w4 at *; rw [← eg]; clear eg)
    | ((with_reducible show wpList _ _ _ (⟨_, .load 28 _, _, _, _, _⟩ :: _) _ _); refine wpList_load_row rfl 28 _ rfl g rfl 28 (rowB 32 p) (0, 0) _ HG4.out Tryd.underlying28 rfl HZ.out ?_)
    | (go_at_call 37; refine (expand_any p _ info n _ (HVC.out.below HB4.out) (by have := HIL.out; omega) (by have := HN.out; omega)).mono ?_; rintro e w5 ⟨⟨a5, rfl, hr5⟩, hb5⟩; have HR5 := Lib.hid hr5; have HB5 := Lib.hid (below_keep HB4.out hb5); have HG5 := Lib.hid ((hb5.block _ (Array.getElem?_eq_some_iff.1 HG4.out).1).trans HG4.out); clear hb5 hr5))
  obtain ⟨x, hx⟩ : ∃ x, x = expS ((List.range 32).map p) info n := ⟨_, rfl⟩
  rw [← hx] at HR5
  have hrg := range_num HG5.out
  have hu := Tryd.underlying28
  have hi : (Tryd.prog.info? 28).map (·.size) = some (rowB 32 p).toList.length := by rw [size32]; simp [rowB_size]
  refine wp_region_plan (S := fun w' => Below w5.heap.size w5 w') [0, 1, 2, 3, 4, 5, 6, 7, 8, 9, 10, 11, 12, 13, 14, 15, 16, 17, 18, 19, 20] [true, true, true, false, true, true, true, false, true, true, true, true, true, true, true, true, false, false, true, true, true] (by kernel_rfl) (by kernel_rfl) (Below.refl _ _).drew (fun hHeld => ?_)
  simp only [List.filterMap_cons, List.filterMap_nil, List.getElem?_toArray, List.getElem?_cons_zero, List.getElem?_cons_succ]
  refine seqH_take (yieldsIf_load_mid (by rfl) _ _ rfl _ _ rfl _ _ (fun w hw => hrg w hw) hu rfl hi) ?_
  try simp only [Act.put, List.setIfInBounds_toArray, List.set_cons_zero, List.set_cons_succ, rowB_back]
  refine seqH_take (v := ?_) (Or.inl ⟨by rfl, ?_⟩) ?_
  rotate_left
  · (intro w hSw; go_simp; first | done | with_reducible rfl)
  try simp only [Act.put, List.setIfInBounds_toArray, List.set_cons_zero, List.set_cons_succ]
  refine seqH_take (v := ?_) (Or.inl ⟨by rfl, ?_⟩) ?_
  rotate_left
  · (intro w hSw; go_simp; first | done | with_reducible rfl)
  try simp only [Act.put, List.setIfInBounds_toArray, List.set_cons_zero, List.set_cons_succ]
  refine seqH_go (fun K hK => ?_)
  rw [if_pos (by rfl)]
  go_simp
  refine (HE2.out _ _ _ (HV.out.below (below_keep HB5.out hHeld)) (HVB.out.below (below_keep HB5.out hHeld)) (HK.out.below (below_keep HB5.out hHeld))).mono ?_; rintro e w6 ⟨rfl, hbc⟩
  try dsimp only
  refine hK.out _ _ (below_keep hHeld hbc) (fun hHeld2 => ?_)
  clear hK K hHeld
  have hHeld := hHeld2
  clear hHeld2
  try simp only [Act.put, List.setIfInBounds_toArray, List.set_cons_zero, List.set_cons_succ]
  refine seqH_take (yieldsIf_eqNum (by rfl) _ _ rfl p p rfl rfl true (eqB_self p)) ?_
  try simp only [Act.put, List.setIfInBounds_toArray, List.set_cons_zero, List.set_cons_succ]
  refine seqH_take (v := ?_) (Or.inl ⟨by rfl, ?_⟩) ?_
  rotate_left
  · (intro w hSw; go_simp; first | done | with_reducible rfl)
  try simp only [Act.put, List.setIfInBounds_toArray, List.set_cons_zero, List.set_cons_succ]
  refine seqH_take (v := ?_) (Or.inl ⟨by rfl, ?_⟩) ?_
  rotate_left
  · (intro w hSw; go_simp; first | done | with_reducible rfl)
  try simp only [Act.put, List.setIfInBounds_toArray, List.set_cons_zero, List.set_cons_succ]
  refine seqH_go (fun K hK => ?_)
  rw [if_pos (by rfl)]
  go_simp
  refine (num8_any 0 _).mono ?_; rintro e w7 ⟨rfl, rfl⟩
  try dsimp only
  refine hK.out _ _ hHeld (fun hHeld2 => ?_)
  clear hK K hHeld
  have hHeld := hHeld2
  clear hHeld2
  try simp only [Act.put, List.setIfInBounds_toArray, List.set_cons_zero, List.set_cons_succ]
  refine seqH_take (v := ?_) (Or.inl ⟨by rfl, ?_⟩) ?_
  rotate_left
  · (intro w hSw; go_simp; first | done | with_reducible rfl)
  try simp only [Act.put, List.setIfInBounds_toArray, List.set_cons_zero, List.set_cons_succ]
  refine seqH_take (v := ?_) (Or.inl ⟨by rfl, ?_⟩) ?_
  rotate_left
  · (intro w hSw; go_simp; first | done | with_reducible rfl)
  try simp only [Act.put, List.setIfInBounds_toArray, List.set_cons_zero, List.set_cons_succ]
  refine seqH_take (v := ?_) (Or.inl ⟨by rfl, ?_⟩) ?_
  rotate_left
  · (intro w hSw; go_simp; first | done | with_reducible rfl)
  try simp only [Act.put, List.setIfInBounds_toArray, List.set_cons_zero, List.set_cons_succ]
  refine seqH_take (v := ?_) (Or.inl ⟨by rfl, ?_⟩) ?_
  rotate_left
  · (intro w hSw; go_simp; first | done | with_reducible rfl)
  try simp only [Act.put, List.setIfInBounds_toArray, List.set_cons_zero, List.set_cons_succ]
  refine seqH_take (yieldsIf_str (by rfl) (.tmp 82) rfl x (fun w' hb => HR5.out.below hb)) ?_
  try simp only [Act.put, List.setIfInBounds_toArray, List.set_cons_zero, List.set_cons_succ]
  refine seqH_take (yieldsIf_load_mid (by rfl) _ _ rfl _ _ rfl _ _ (fun w hw => hrg w hw) hu rfl hi) ?_
  try simp only [Act.put, List.setIfInBounds_toArray, List.set_cons_zero, List.set_cons_succ, rowB_back]
  refine seqH_take (v := ?_) (Or.inl ⟨by rfl, ?_⟩) ?_
  rotate_left
  · (intro w hSw; go_simp; first | done | with_reducible rfl)
  try simp only [Act.put, List.setIfInBounds_toArray, List.set_cons_zero, List.set_cons_succ]
  refine seqH_take (v := ?_) (Or.inl ⟨by rfl, ?_⟩) ?_
  rotate_left
  · (intro w hSw; go_simp; first | done | with_reducible rfl)
  try simp only [Act.put, List.setIfInBounds_toArray, List.set_cons_zero, List.set_cons_succ]
  refine seqH_go (fun K hK => ?_)
  rw [if_pos (by rfl)]
  go_simp
  refine (refExpand_any p _ info n _ (HVC.out.below (below_keep HB5.out hHeld)) (by have := HIL.out; omega) (by have := HN.out; omega) (HK.out.below (below_keep HB5.out hHeld))).mono ?_; rintro e w8 ⟨⟨a8, c8, rfl, hr8⟩, hbc⟩; rw [← hx] at hr8
  try dsimp only
  refine hK.out _ _ (below_keep hHeld hbc) (fun hHeld2 => ?_)
  clear hK K hHeld
  have hHeld := hHeld2
  clear hHeld2
  try simp only [Act.put, List.setIfInBounds_toArray, List.set_cons_zero, List.set_cons_succ]
  refine seqH_go (fun K hK => ?_)
  rw [if_pos (by rfl)]
  refine wp_str (.tmp 87) rfl x hr8 ?_
  refine hK.out _ _ hHeld (fun hHeld2 => ?_)
  clear hK K hHeld
  have hHeld := hHeld2
  clear hHeld2
  try simp only [Act.put, List.setIfInBounds_toArray, List.set_cons_zero, List.set_cons_succ]
  refine seqH_take (v := ?_) (Or.inl ⟨by rfl, ?_⟩) ?_
  rotate_left
  · (intro w hSw; go_simp; first | done | with_reducible rfl)
  try simp only [Act.put, List.setIfInBounds_toArray, List.set_cons_zero, List.set_cons_succ]
  refine seqH_take (v := ?_) (Or.inl ⟨by rfl, ?_⟩) ?_
  rotate_left
  · (intro w hSw; go_simp; first | done | with_reducible rfl)
  try simp only [Act.put, List.setIfInBounds_toArray, List.set_cons_zero, List.set_cons_succ]
  refine seqH_take (v := ?_) (Or.inl ⟨by rfl, ?_⟩) ?_
  rotate_left
  · (intro w hSw; go_simp; first | done | with_reducible rfl)
  try simp only [Act.put, List.setIfInBounds_toArray, List.set_cons_zero, List.set_cons_succ]
  refine seqH_nil (NoPanic.normal ?_)
  clear hrg hu hi hr8
  go_wp2
  go_ret
  exact ⟨rfl, below_keep HB5.out hHeld⟩

set_option maxHeartbeats 1000000 in
theorem deriveExpands_out (a a2 a3 : Option Addr) (k c k2 c2 k3 c3 : Nat) (n : Int) (w : World) (h : 300 < k ∨ 300 < k2 ∨ 300 < k3 ∨ 2000 < n ∧ n ≤ 8160) (hka : KAt w) :
    Calls Tryd.prog 16 #[.slice a k c, .slice a2 k2 c2, .slice a3 k3 c3, .int .i64 n] w fun e w' => e = .returned (.bool true) ∧ Below w.heap.size w w' := by
  have HKA := Lib.hid hka
  clear hka
  by_cases h1 : 300 < k
  · have hz1 : ((300 : Int) < (k : Int)) = True := eq_true (by omega)
    clear h h1
    go_enter Tryd.func16, Tryd.ntmps16
    go_wp2_with (go_at_call 34; refine (alive8_any _ HKA.out).mono ?_; rintro e w2 ⟨rfl, hb2⟩)
    go_ret
    exact ⟨rfl, hb2⟩
  · have hz1 : ((300 : Int) < (k : Int)) = False := eq_false (by omega)
    by_cases h2 : 300 < k2
    · have hz2 : ((300 : Int) < (k2 : Int)) = True := eq_true (by omega)
      clear h h1 h2
      go_enter Tryd.func16, Tryd.ntmps16
      go_wp2_with (go_at_call 34; refine (alive8_any _ HKA.out).mono ?_; rintro e w2 ⟨rfl, hb2⟩)
      go_ret
      exact ⟨rfl, hb2⟩
    · have hz2 : ((300 : Int) < (k2 : Int)) = False := eq_false (by omega)
      by_cases h3 : 300 < k3
      · have hz3 : ((300 : Int) < (k3 : Int)) = True := eq_true (by omega)
        clear h h1 h2 h3
        go_enter Tryd.func16, Tryd.ntmps16
        go_wp2_with (go_at_call 34; refine (alive8_any _ HKA.out).mono ?_; rintro e w2 ⟨rfl, hb2⟩)
        go_ret
        exact ⟨rfl, hb2⟩
      · have hz3 : ((300 : Int) < (k3 : Int)) = False := eq_false (by omega)
        have h4 : 2000 < n := by omega
        have h5 : n ≤ 8160 := by omega
        clear h h1 h2 h3
        go_enter Tryd.func16, Tryd.ntmps16
        go_wp2_with (go_at_call 34; refine (alive8_any _ HKA.out).mono ?_; rintro e w2 ⟨rfl, hb2⟩)
        go_ret
        exact ⟨rfl, hb2⟩
theorem deriveExpands_walk {w : World} (v : Value) (salt : List (BitVec 8)) (hv : BRow w v salt) (_hq : salt.length ≤ maxLen ∧ CapOk v) (vb : Value) (key : List (BitVec 8)) (hvb : BRow w vb key) (_hq2 : key.length ≤ maxLen ∧ CapOk vb) (vc : Value) (info : List (BitVec 8)) (hvc : BRow w vc info) (_hq3 : info.length ≤ maxLen ∧ CapOk vc) (n : Int) (_hn : -9223372036854775808 ≤ n ∧ n ≤ 9223372036854775807) (hk : KAt w) :
    Calls Tryd.prog 16 #[v, vb, vc, .int .i64 n] w fun e w' => e = .returned (.bool true) ∧ Below w.heap.size w w' := by
  obtain ⟨a, c, rfl⟩ := hv.shape
  obtain ⟨a2, c2, rfl⟩ := hvb.shape
  obtain ⟨a3, c3, rfl⟩ := hvc.shape
  by_cases h : 300 < salt.length ∨ 300 < key.length ∨ 300 < info.length ∨ 2000 < n ∧ n ≤ 8160
  · exact deriveExpands_out a a2 a3 _ c _ c2 _ c3 n w h hk
  · by_cases h1 : n < 0
    · exact deriveExpands_neg a a2 a3 c c2 c3 salt key info n w hv hvb hvc (by omega) (by omega) (by omega) h1 hk
    · by_cases h2 : 8160 < n
      · exact deriveExpands_big a a2 a3 c c2 c3 salt key info n w hv hvb hvc (by omega) (by omega) (by omega) h2 hk
      · have := deriveExpands_ok a a2 a3 c c2 c3 salt key info n.toNat w hv hvb hvc (by omega) (by omega) (by omega) (by omega) hk
        rw [show ((n.toNat : Nat) : Int) = n by omega] at this
        exact this

end Go.Proofs.YtnnllficjljjkaaDoor
