/-
  The walks of the document's own climb (up) and Check of a tree.
-/
import Derived.Test.YtnnllficjljjkaaDoorRefPath
namespace Go.Proofs.YtnnllficjljjkaaDoor
open Go.RowKit
set_option linter.unusedVariables false
set_option linter.unusedSimpArgs false

theorem upS_one {n : Nat} (i : Nat) (b : List (BitVec 8)) (p : List (Nat → BitVec 8)) (h : n < 2) : upS n i b p = if p = [] then some (leafS b) else none := by rw [upS, dif_neg (by omega)]
theorem upS_none {n : Nat} (i : Nat) (b : List (BitVec 8)) (h : 2 ≤ n) : upS n i b [] = none := by rw [upS, dif_pos h]; rfl
theorem upS_left {n i : Nat} (b : List (BitVec 8)) (q : List (Nat → BitVec 8)) (o : Nat → BitVec 8) (h : 2 ≤ n) (hi : i < cutN n) : upS n i b (q ++ [o]) = (upS (cutN n) i b q).map fun h => nodeS h o := by
  rw [upS, dif_pos h, List.getLast?_concat, List.dropLast_concat]
  show (if i < cutN n then _ else _) = _
  rw [if_pos hi]
theorem upS_right {n i : Nat} (b : List (BitVec 8)) (q : List (Nat → BitVec 8)) (o : Nat → BitVec 8) (h : 2 ≤ n) (hi : ¬ i < cutN n) : upS n i b (q ++ [o]) = (upS (n - cutN n) (i - cutN n) b q).map fun h => nodeS o h := by
  rw [upS, dif_pos h, List.getLast?_concat, List.dropLast_concat]
  show (if i < cutN n then _ else _) = _
  rw [if_neg hi]

theorem results_two {P : Program} {fn : Func} {p q : Tmp} {ty : TypeId} (h : fn.results = #[.cell p ty, .tmp q]) (tmps : Array Value) (w : World) (g : Nat) (t : TypeId) (cs : Array Value) (fr : Nat × Nat) (d : TypeDesc) (v : Value)
    (hp : tmps.getD p undef = .pointer (some ⟨g, 0, none⟩)) (hv : tmps.getD q undef = v) (hg : w.heap[g]? = some (.cells cs t fr))
    (hu : P.underlying ty = some d) (hd : (match d with | .struct _ | .array _ _ => true | _ => false) = true) (hi : (P.info? ty).map (·.size) = some cs.size) :
    (results fn tmps).run P w = .ok (.tuple #[.agg cs, v]) w := by
  have hp' : tmps[p]?.getD undef = .pointer (some ⟨g, 0, none⟩) := by simpa using hp
  have hv' : tmps[q]?.getD undef = v := by simpa using hv
  simp [results, h, hp', hv', asAddr, run_loadVar_row w g t ty cs fr d hg hu hd hi]

/-- What the climb answers. -/
def UpPost (n i : Nat) (b : List (BitVec 8)) (p : List (Nat → BitVec 8)) (w : World) (e : Ending) (w' : World) : Prop :=
  ∃ (f : Nat → BitVec 8) (ok : Bool), e = .returned (.tuple #[.agg (rowB 32 f), .bool ok]) ∧ upS n i b p = (if ok then some f else none) ∧ Below w.heap.size w w'

set_option maxRecDepth 100000 in
set_option maxHeartbeats 2000000 in
theorem up_one (i : Nat) (A B : Option Addr) (P c cb : Nat) (b : List (BitVec 8)) (p : List (Nat → BitVec 8)) (w : World) (hb : BRow w (.slice B b.length cb) b) (hbl : b.length ≤ 99999900) (hP : P = p.length) (hka : KAt w) :
    Calls Tryd.prog 62 #[.int .i64 1, .int .i64 (i : Int), .slice B b.length cb, .slice A P c] w fun e w' => UpPost 1 i b p w e w' := by
  obtain ⟨h, hh⟩ : ∃ h, h = leafS b := ⟨_, rfl⟩
  have hs := Lib.hid (show ∀ v w, BRow w v (0 :: b) → KAt w → Calls Tryd.prog 24 #[v] w fun e w' => e = .returned (.agg (rowB 32 h)) ∧ Below w.heap.size w w' from fun v w hr hk => by
    rw [hh]; exact refSha_any v (0 :: b) w hr (by simp; omega) hk)
  have hup : ∀ ok : Bool, ok = decide (P = 0) → upS 1 i b p = if ok then some h else none := fun ok hok => by
    rw [upS_one i b p (by decide), hh, hok]
    by_cases h0 : P = 0
    · rw [if_pos (List.eq_nil_of_length_eq_zero (by omega)), if_pos (by simpa using h0)]
    · rw [if_neg (fun e => h0 (by rw [hP, e]; rfl)), if_neg (by simpa using h0)]
  have HUP := Lib.hid hup
  have HZ := Lib.hid (show (Tryd.prog.info? 28).map (·.size) = some (rowB 32 h).size by rw [size32, rowB_size])
  have HB1 := Lib.hid (show Below w.heap.size w (w.alloc (.cells (row 32 fun _ => .int .u8 0) 28)) from below_allocS (Below.refl _ _) _)
  have HR1 := Lib.hid (show (w.alloc (.cells (row 32 fun _ => .int .u8 0) 28)).heap[w.heap.size]? = some (.cells (row 32 fun _ => .int .u8 0) 28 (0, 0)) from heap_alloc_new _ _)
  have HROW := Lib.hid (hb.below HB1.out)
  have HKA := Lib.hid (hka.below HB1.out)
  have HLEN := Lib.hid hbl
  clear hup hh hP hka hb hbl
  have hcase : P = 0 ∨ ¬ ((P : Int) = 0) := by omega
  rcases hcase with rfl | hP0
  all_goals
    go_enter Tryd.func62, Tryd.ntmps62
    go_wp2_with (first
      | ((with_reducible refine wpList_alloc_row rfl 28 rfl 32 _ info32 ?_); generalize w.alloc (.cells (row 32 fun _ => .int .u8 0) 28) = w1 at *; have HBX := Lib.hid (show Below w1.heap.size w1 (w1.alloc (.cells #[.int .u8 0] 5)) from below_allocS (Below.refl _ _) _); have HOX := Lib.hid (show OwnB (w1.alloc (.cells #[.int .u8 0] 5)) w1.heap.size (.slice (some ⟨w1.heap.size, 0, none⟩) 1 1) [0] from ⟨rfl, .inr ⟨w1.heap.size, 1, #[.int .u8 0], rfl, Nat.le_refl _, heap_alloc_new w1 _, Nat.le_refl _, by decide, rfl, rfl⟩⟩))
      | (at_builtin; refine wpList_append_B rfl (.tmp 18) (.tmp 19) rfl w1.heap.size _ [0] b rfl HOX.out (HROW.out.below HBX.out) (by have := HLEN.out; simp; omega) HBX.out.size ?_; intro v3 w3 hown3 hg3; have HO3 := Lib.hid hown3; have HB3 := Lib.hid (HBX.out.grown hg3 HBX.out.size (fun k hk => (World.ownsRow.lt HOX.out k hk).1)); clear hown3 hg3)
      | (go_at_call 24; refine (hs.out _ _ HO3.out.brow (HKA.out.below HB3.out)).mono ?_; rintro e w2 ⟨rfl, hb2⟩; have HB2 := Lib.hid (below_keep HB1.out (below_keep HB3.out hb2)); have HR2 := Lib.hid (((below_keep HB3.out hb2).block _ (Array.getElem?_eq_some_iff.1 HR1.out).1).trans HR1.out))
      | ((with_reducible show wpList _ _ _ (⟨_, .store 28 _ _, _, _, _, _⟩ :: _) _ _); refine wpList_store_rowTo rfl 28 _ _ rfl rfl w.heap.size (rowB 32 h) rfl rfl 28 _ HR2.out HZ.out (by rw [row_size, rowB_size]) (rowB_oneCell _ _) ?_))
    refine bodyPost_ret (results_two rfl _ _ w.heap.size 28 (rowB 32 h) (0, 0) _ _ rfl rfl (heap_setRow_at HR2.out) Tryd.underlying28 rfl HZ.out) rfl ?_
    exact ⟨_, _, rfl, HUP.out _ (by first | rfl | exact (beq_eq_false_iff_ne.2 hP0).trans (decide_eq_false (fun e => hP0 (by rw [e]; rfl))).symm), below_setRow HB2.out (Nat.le_refl _) _⟩

set_option maxRecDepth 100000 in
set_option maxHeartbeats 2000000 in
theorem up_empty (n i : Nat) (A B : Option Addr) (c cb : Nat) (b : List (BitVec 8)) (w : World) (h2 : 2 ≤ n) :
    Calls Tryd.prog 62 #[.int .i64 (n : Int), .int .i64 (i : Int), .slice B b.length cb, .slice A 0 c] w fun e w' => UpPost n i b [] w e w' := by
  have hn1 : ¬ ((n : Int) = 1) := by omega
  have HZ := Lib.hid (show (Tryd.prog.info? 28).map (·.size) = some (rowB 32 fun _ => 0).size by rw [size32, rowB_size])
  have HB1 := Lib.hid (show Below w.heap.size w (w.alloc (.cells (row 32 fun _ => .int .u8 0) 28)) from below_allocS (Below.refl _ _) _)
  have HR1 := Lib.hid (show (w.alloc (.cells (row 32 fun _ => .int .u8 0) 28)).heap[w.heap.size]? = some (.cells (row 32 fun _ => .int .u8 0) 28 (0, 0)) from heap_alloc_new _ _)
  go_enter Tryd.func62, Tryd.ntmps62
  go_wp2_with (first
    | (refine wpList_buildTo rfl 28 #[] rfl _ rfl (rowB 32 fun _ => 0) (by kernel_rfl) ?_)
    | ((with_reducible refine wpList_alloc_row rfl 28 rfl 32 _ info32 ?_); generalize w.alloc (.cells (row 32 fun _ => .int .u8 0) 28) = w1 at *)
    | ((with_reducible show wpList _ _ _ (⟨_, .store 28 _ _, _, _, _, _⟩ :: _) _ _); refine wpList_store_rowTo rfl 28 _ _ rfl rfl w.heap.size (rowB 32 fun _ => 0) rfl rfl 28 _ HR1.out HZ.out (by rw [row_size, rowB_size]) (rowB_oneCell _ _) ?_))
  refine bodyPost_ret (results_two rfl _ _ w.heap.size 28 (rowB 32 fun _ => 0) (0, 0) _ _ rfl rfl (heap_setRow_at HR1.out) Tryd.underlying28 rfl HZ.out) rfl ?_
  exact ⟨_, false, rfl, by rw [upS_none i b h2]; rfl, below_setRow HB1.out (Nat.le_refl _) _⟩

set_option maxRecDepth 100000 in
set_option maxHeartbeats 4000000 in
theorem up_any (b : List (BitVec 8)) (B : Option Addr) (cb : Nat) (hbl : b.length ≤ 99999900) : ∀ (n i : Nat) (p : List (Nat → BitVec 8)) (A : Option Addr) (P c : Nat) (w : World), i < n → n ≤ 100000000 → P = p.length → P ≤ c → P ≤ 100000000 →
    BRow w (.slice B b.length cb) b → NRow w (.slice A P c) p → KAt w →
    Calls Tryd.prog 62 #[.int .i64 (n : Int), .int .i64 (i : Int), .slice B b.length cb, .slice A P c] w fun e w' => UpPost n i b p w e w' := by
  intro n
  induction n using Nat.strongRecOn with
  | _ n ih =>
    intro i p A P c w hi hn hP hc hPl hb hp hka
    by_cases h1 : n = 1
    · subst h1
      exact up_one i A B P c cb b p w hb hbl hP hka
    · have h2 : 2 ≤ n := by omega
      rcases List.eq_nil_or_concat p with rfl | ⟨ps, o, rfl⟩
      · subst hP
        exact up_empty n i A B c cb b w h2
      · rw [List.concat_eq_append] at hP hp ⊢
        obtain ⟨q, hq⟩ : ∃ q, q = ps.length := ⟨_, rfl⟩
        have hPq : P = q + 1 := by rw [hP, hq]; simp
        have hnf : NRow w (.slice A q c) ps := by
          have := hp.front (k := q) (by rw [hq]; simp)
          rw [hq, List.take_left] at this
          rw [hq]; exact this
        obtain ⟨pb, off, rfl, hpb, hrp⟩ := hp.at (i := q) (by rw [hq]; simp)
        rw [show (ps ++ [o])[q]'(by rw [hq]; simp) = o by subst hq; simp] at hrp
        have HNF := Lib.hid hnf
        have HRP := Lib.hid hrp
        have HB := Lib.hid hb
        have HKA0 := Lib.hid hka
        have IH := Lib.hid ih
        have HQ := Lib.hid hq
        have HC := Lib.hid hc
        have HLEN := Lib.hid hbl
        have hn1 : ¬ ((n : Int) = 1) := by omega
        have hP0 : ¬ ((P : Int) = 0) := by omega
        have hPp : (0 : Int) < (P : Int) := by omega
        have hP9 : (P : Int) ≤ 100000000 := by omega
        have hn9 : (n : Int) ≤ 100000000 := by omega
        have hn0 : (2 : Int) ≤ (n : Int) := by omega
        have hi0 : (0 : Int) ≤ (i : Int) := by omega
        have hi1 : (i : Int) < (n : Int) := by omega
        have hP1 : (P : Int) - 1 = (q : Int) := by omega
        have hq0 : (0 : Int) ≤ (q : Int) := by omega
        have hq1 : (q : Int) < (P : Int) := by omega
        have hq2 : q < P := by omega
        have hk1 := cutN_lt h2
        have hk0 := cutN_pos n
        have HCU := Lib.hid (show ∀ w, Calls Tryd.prog 60 #[.int .i64 (n : Int)] w fun e w' => e = .returned (.int .i64 (cutN n : Int)) ∧ w = w' from fun w => half_any n w h2 (by omega))
        have HUL := Lib.hid (fun hi => upS_left (i := i) b ps o h2 hi)
        have HUR := Lib.hid (fun hi => upS_right (i := i) b ps o h2 hi)
        generalize cutN n = k at *
        have hk2 : (k : Int) < (n : Int) := by omega
        have hk3 : (0 : Int) < (k : Int) := by omega
        have HZ := Lib.hid (fun f : Nat → BitVec 8 => show (Tryd.prog.info? 28).map (·.size) = some (rowB 32 f).size by rw [size32, rowB_size])
        have hs1 := slice_hiN (A := some ⟨pb, off, none⟩) (n := P) (c := c) (k := q) (by omega)
        have HS3 := Lib.hid (show ∀ (f1 f2 : Nat → BitVec 8) v w, BRow w v ([1] ++ (List.range 32).map f1 ++ (List.range 32).map f2) → KAt w → Calls Tryd.prog 24 #[v] w fun e w' => e = .returned (.agg (rowB 32 (nodeS f1 f2))) ∧ Below w.heap.size w w' from fun f1 f2 v w hr hk => by
          have := refSha_any v _ w hr (by simp) hk
          have e : ([1] ++ (List.range 32).map f1 ++ (List.range 32).map f2 : List (BitVec 8)) = 1 :: (num32 f1 ++ num32 f2) := by simp [num32]
          rw [e] at this
          exact this)
        have HB1 := Lib.hid (show Below w.heap.size w (w.alloc (.cells (row 32 fun _ => .int .u8 0) 28)) from below_allocS (Below.refl _ _) _)
        have HR1 := Lib.hid (show (w.alloc (.cells (row 32 fun _ => .int .u8 0) 28)).heap[w.heap.size]? = some (.cells (row 32 fun _ => .int .u8 0) 28 (0, 0)) from heap_alloc_new _ _)
        have HBB := Lib.hid (hb.below HB1.out)
        have HN1 := Lib.hid (hnf.below HB1.out)
        have HKA := Lib.hid (hka.below HB1.out)
        have hrg : ∀ w', Below w.heap.size w w' → w'.rangeAt pb (off + q * 32) (rowB 32 o).toList := fun w' h j v hv => (h.cell (p := ⟨pb, off + q * 32 + j, none⟩) hpb).trans (hrp j v hv)
        have HRG := Lib.hid (hrg _ HB1.out)
        have HSL := Lib.hid (show (Tryd.prog.info? 28).map (·.size) = some (rowB 32 o).toList.length by rw [size32]; simp [rowB_size])
        clear hnf hrp hb hka ih hq hc hbl hp hP hrg hPq
        by_cases hik : i < k
        · have hik1 : (i : Int) < (k : Int) := by omega
          have HX := Lib.hid (show ∀ w, BRow w (.slice B b.length cb) b → NRow w (.slice (some ⟨pb, off, none⟩) q c) ps → KAt w → Calls Tryd.prog 62 #[.int .i64 (k : Int), .int .i64 (i : Int), .slice B b.length cb, .slice (some ⟨pb, off, none⟩) q c] w fun e w' => UpPost k i b ps w e w' from fun w hb hp hk =>
            IH.out k hk1 i ps _ q c w hik (by omega) HQ.out (by have := HC.out; omega) (by omega) hb hp hk)
          go_enter Tryd.func62, Tryd.ntmps62
          go_wp2_with (first
            | ((with_reducible show wpList _ _ _ (⟨some 8, .alloc _, _, _, _, _⟩ :: _) _ _); with_reducible refine wpList_alloc_row rfl 28 rfl 32 _ info32 ?_; generalize w.alloc (.cells (row 32 fun _ => .int .u8 0) 28) = w1 at *)
            | (go_at_call 60; refine (HCU.out _).mono ?_; rintro e w2 ⟨rfl, rfl⟩)
            | ((with_reducible show wpList _ _ _ (⟨some 36, .load 28 _, _, _, _, _⟩ :: _) _ _); refine wpList_load_mid rfl 28 _ rfl pb (off + q * 32) rfl (rowB 32 o).toList _ HRG.out Tryd.underlying28 rfl HSL.out ?_; rw [rowB_back])
            | (with_reducible refine wpList_alloc_row rfl 28 rfl 32 _ info32 ?_)
            | ((with_reducible show wpList _ _ _ (⟨_, .store 28 (.tmp 11) _, _, _, _, _⟩ :: _) _ _); refine wpList_store_rowTo rfl 28 (.tmp 11) _ rfl rfl w1.heap.size (rowB 32 o) rfl rfl 28 _ (heap_alloc_new _ _) (HZ.out _) (by rw [row_size, rowB_size]) (rowB_oneCell _ _) ?_; obtain ⟨ga, ega⟩ : ∃ g, g = w1.heap.size := ⟨_, rfl⟩; have HB4 := Lib.hid (show Below w1.heap.size w1 ((w1.alloc (.cells (row 32 fun _ => .int .u8 0) 28)).setRow w1.heap.size (rowB 32 o)) from below_setRow (below_allocS (Below.refl _ _) _) (Nat.le_refl _) _); have HG4 := Lib.hid (show ((w1.alloc (.cells (row 32 fun _ => .int .u8 0) 28)).setRow w1.heap.size (rowB 32 o)).heap[ga]? = some (.cells (rowB 32 o) 28 (0, 0)) from by rw [ega]; exact heap_setRow_at (heap_alloc_new _ _)); generalize (w1.alloc (.cells (row 32 fun _ => .int .u8 0) 28)).setRow w1.heap.size (rowB 32 o) = w4 at *; rw [← ega]; clear ega)
            | (go_at_call 62; refine (HX.out _ (HBB.out.below HB4.out) (HN1.out.below HB4.out) (HKA.out.below HB4.out)).mono ?_; rintro e w5 ⟨f2, ok, rfl, hup, hb5⟩; have HUP := Lib.hid hup; have HB5 := Lib.hid (below_keep HB4.out hb5); have HG5 := Lib.hid ((hb5.block _ (Array.getElem?_eq_some_iff.1 HG4.out).1).trans HG4.out); clear hb5 hup)
            | ((with_reducible show wpList _ _ _ (⟨_, .store 28 (.tmp 12) _, _, _, _, _⟩ :: _) _ _); refine wpList_store_rowTo rfl 28 (.tmp 12) _ rfl rfl w5.heap.size (rowB 32 f2) rfl rfl 28 _ (heap_alloc_new _ _) (HZ.out _) (by rw [row_size, rowB_size]) (rowB_oneCell _ _) ?_; obtain ⟨gb, egb⟩ : ∃ g, g = w5.heap.size := ⟨_, rfl⟩; have HB6 := Lib.hid (show Below w1.heap.size w1 ((w5.alloc (.cells (row 32 fun _ => .int .u8 0) 28)).setRow w5.heap.size (rowB 32 f2)) from below_setRow (below_allocS HB5.out _) HB5.out.size _); have HA6 := Lib.hid (show ((w5.alloc (.cells (row 32 fun _ => .int .u8 0) 28)).setRow w5.heap.size (rowB 32 f2)).heap[ga]? = some (.cells (rowB 32 o) 28 (0, 0)) from (heap_setRow_far (Nat.ne_of_lt (Array.getElem?_eq_some_iff.1 HG5.out).1)).trans ((Below.heap_alloc _ _ _ (Array.getElem?_eq_some_iff.1 HG5.out).1).trans HG5.out)); have HG6 := Lib.hid (show ((w5.alloc (.cells (row 32 fun _ => .int .u8 0) 28)).setRow w5.heap.size (rowB 32 f2)).heap[gb]? = some (.cells (rowB 32 f2) 28 (0, 0)) from by rw [egb]; exact heap_setRow_at (heap_alloc_new _ _)); generalize (w5.alloc (.cells (row 32 fun _ => .int .u8 0) 28)).setRow w5.heap.size (rowB 32 f2) = w6 at *; rw [← egb]; clear egb))
          clear hs1
          obtain ⟨h, hh⟩ : ∃ h, h = nodeS f2 o := ⟨_, rfl⟩
          have HH := Lib.hid hh
          have hX3 := HS3.out f2 o
          rw [← hh] at hX3
          clear hh
          have HX3 := Lib.hid hX3
          clear hX3
          have hlt1 := (Array.getElem?_eq_some_iff.1 HR1.out).1
          have HR6 := Lib.hid ((HB6.out.block _ hlt1).trans HR1.out)
          have hlt6 := (Array.getElem?_eq_some_iff.1 HR6.out).1
          have HK6 := Lib.hid (HKA.out.below HB6.out)
          refine wp_region_plan (S := fun w' => w6.grownBy w' (some w.heap.size)) [1, 3, 6, 0, 2, 4, 5, 7, 8] [true, true, true, false, false, false, false, false, true] (by kernel_rfl) (by kernel_rfl) (grown_drew (grown_refl _ _)) (fun _ => ?_)
          simp only [List.filterMap_cons, List.filterMap_nil, List.getElem?_toArray, List.getElem?_cons_zero, List.getElem?_cons_succ]
          refine seqH_take (v := ?_) (Or.inl ⟨by rfl, ?_⟩) ?_
          rotate_left
          · (intro w hSw; go_simp; first | done | with_reducible rfl)
          try simp only [Act.put, List.setIfInBounds_toArray, List.set_cons_zero, List.set_cons_succ]
          refine seqH_take (v := ?_) (Or.inl ⟨by rfl, ?_⟩) ?_
          rotate_left
          · (intro w hSw; go_simp; first | done | with_reducible rfl)
          try simp only [Act.put, List.setIfInBounds_toArray, List.set_cons_zero, List.set_cons_succ]
          refine seqH_take (v := ?_) (Or.inl ⟨by rfl, ?_⟩) ?_
          rotate_left
          · (intro w hSw; go_simp; first | done | with_reducible rfl)
          try simp only [Act.put, List.setIfInBounds_toArray, List.set_cons_zero, List.set_cons_succ]
          refine seqH_go (fun K hK => ?_)
          rw [if_pos (by rfl)]
          refine wp_build_b_own (.const (.int .u8 1)) rfl 1 rfl w6.heap.size (Nat.le_refl _) ?_; intro g7 w7 hown7 hg7; have hB7 : Below w6.heap.size w6 w7 := (Below.refl _ _).drew.grown hg7 (Nat.le_refl _) (fun k hk => by cases hk)
          refine hK.out _ _ (grown_of_below hB7) (fun _ => ?_)
          clear hK K
          try simp only [Act.put, List.setIfInBounds_toArray, List.set_cons_zero, List.set_cons_succ]
          refine seqH_go (fun K hK => ?_)
          rw [if_pos (by rfl)]
          refine wp_append_B (.tmp 52) (.tmp 53) rfl w6.heap.size _ [1] ((List.range 32).map f2) rfl hown7 (brow_num ((hB7.block _ (Array.getElem?_eq_some_iff.1 HG6.out).1).trans HG6.out)) (by simp) hB7.size ?_; intro v8 w8 hown8 hg8; have hB8 : Below w6.heap.size w6 w8 := hB7.grown hg8 hB7.size (fun k hk => (World.ownsRow.lt hown7 k hk).1)
          refine hK.out _ _ (grown_of_below hB8) (fun _ => ?_)
          clear hK K
          try simp only [Act.put, List.setIfInBounds_toArray, List.set_cons_zero, List.set_cons_succ]
          refine seqH_go (fun K hK => ?_)
          rw [if_pos (by rfl)]
          refine wp_append_B (.tmp 54) (.tmp 55) rfl w6.heap.size _ ([1] ++ (List.range 32).map f2) ((List.range 32).map o) rfl hown8 (brow_num ((hB8.block _ (Array.getElem?_eq_some_iff.1 HA6.out).1).trans HA6.out)) (by simp) hB8.size ?_; intro v9 w9 hown9 hg9; have hB9 : Below w6.heap.size w6 w9 := hB8.grown hg9 hB8.size (fun k hk => (World.ownsRow.lt hown8 k hk).1)
          refine hK.out _ _ (grown_of_below hB9) (fun _ => ?_)
          clear hK K
          try simp only [Act.put, List.setIfInBounds_toArray, List.set_cons_zero, List.set_cons_succ]
          refine seqH_go (fun K hK => ?_)
          rw [if_pos (by rfl)]
          go_simp; refine (HX3.out _ _ hown9.brow (HK6.out.below hB9)).mono ?_; rintro e w10 ⟨rfl, hb10⟩; dsimp only; have hB10 := below_keep hB9 hb10
          refine hK.out _ _ (grown_of_below hB10) (fun _ => ?_)
          clear hK K
          try simp only [Act.put, List.setIfInBounds_toArray, List.set_cons_zero, List.set_cons_succ]
          refine seqH_go (fun K hK => ?_)
          rw [if_pos (by rfl)]
          refine wpm_store (.tmp 8) (.tmp 57) rfl w.heap.size h rfl rfl 28 _ ((hB10.block _ hlt6).trans HR6.out) ?_; intro w11 h11 hg11
          refine hK.out _ _ (grown_trans (grown_of_below hB10) hg11) (fun _ => ?_)
          clear hK K
          try simp only [Act.put, List.setIfInBounds_toArray, List.set_cons_zero, List.set_cons_succ]
          refine seqH_take (v := ?_) (Or.inl ⟨by rfl, ?_⟩) ?_
          rotate_left
          · (intro w hSw; go_simp; first | done | with_reducible rfl)
          try simp only [Act.put, List.setIfInBounds_toArray, List.set_cons_zero, List.set_cons_succ]
          refine seqH_nil (NoPanic.normal ?_)
          have HB11 := Lib.hid ((below_keep HB1.out HB6.out).grown (grown_trans (grown_of_below hB10) hg11) (below_keep HB1.out HB6.out).size (fun k hk => by cases hk; exact Nat.le_refl _))
          have HG11 := Lib.hid h11
          clear hB7 hB8 hB9 hB10 hg7 hg8 hg9 hg11 h11 hb10 hown7 hown8 hown9
          go_wp2
          refine bodyPost_ret (results_two rfl _ _ w.heap.size 28 (rowB 32 h) (0, 0) _ _ rfl rfl HG11.out Tryd.underlying28 rfl (HZ.out _)) rfl ?_
          exact ⟨h, ok, rfl, by rw [HUL.out hik, HUP.out]; cases ok <;> simp [HH.out], HB11.out⟩
        · have hik1 : ¬ (i : Int) < (k : Int) := by omega
          have hik2 : (k : Int) ≤ (i : Int) := by omega
          have hw1 : IntKind.i64.wrap ((i : Int) - (k : Int)) = (i : Int) - (k : Int) := IntWalk.i64_in _ (by omega)
          have hw2 : IntKind.i64.wrap ((n : Int) - (k : Int)) = (n : Int) - (k : Int) := IntWalk.i64_in _ (by omega)
          have HX := Lib.hid (show ∀ w, BRow w (.slice B b.length cb) b → NRow w (.slice (some ⟨pb, off, none⟩) q c) ps → KAt w → Calls Tryd.prog 62 #[.int .i64 ((n : Int) - (k : Int)), .int .i64 ((i : Int) - (k : Int)), .slice B b.length cb, .slice (some ⟨pb, off, none⟩) q c] w fun e w' => UpPost (n - k) (i - k) b ps w e w' from fun w hb hp hk => by
            have := IH.out (n - k) (by omega) (i - k) ps _ q c w (by omega) (by omega) HQ.out (by have := HC.out; omega) (by omega) hb hp hk
            rw [show (((n - k : Nat)) : Int) = (n : Int) - (k : Int) by omega, show (((i - k : Nat)) : Int) = (i : Int) - (k : Int) by omega] at this
            exact this)
          go_enter Tryd.func62, Tryd.ntmps62
          go_wp2_with (first
            | ((with_reducible show wpList _ _ _ (⟨some 8, .alloc _, _, _, _, _⟩ :: _) _ _); with_reducible refine wpList_alloc_row rfl 28 rfl 32 _ info32 ?_; generalize w.alloc (.cells (row 32 fun _ => .int .u8 0) 28) = w1 at *)
            | (go_at_call 60; refine (HCU.out _).mono ?_; rintro e w2 ⟨rfl, rfl⟩)
            | ((with_reducible show wpList _ _ _ (⟨some 36, .load 28 _, _, _, _, _⟩ :: _) _ _); refine wpList_load_mid rfl 28 _ rfl pb (off + q * 32) rfl (rowB 32 o).toList _ HRG.out Tryd.underlying28 rfl HSL.out ?_; rw [rowB_back])
            | (with_reducible refine wpList_alloc_row rfl 28 rfl 32 _ info32 ?_)
            | ((with_reducible show wpList _ _ _ (⟨_, .store 28 (.tmp 11) _, _, _, _, _⟩ :: _) _ _); refine wpList_store_rowTo rfl 28 (.tmp 11) _ rfl rfl w1.heap.size (rowB 32 o) rfl rfl 28 _ (heap_alloc_new _ _) (HZ.out _) (by rw [row_size, rowB_size]) (rowB_oneCell _ _) ?_; obtain ⟨ga, ega⟩ : ∃ g, g = w1.heap.size := ⟨_, rfl⟩; have HB4 := Lib.hid (show Below w1.heap.size w1 ((w1.alloc (.cells (row 32 fun _ => .int .u8 0) 28)).setRow w1.heap.size (rowB 32 o)) from below_setRow (below_allocS (Below.refl _ _) _) (Nat.le_refl _) _); have HG4 := Lib.hid (show ((w1.alloc (.cells (row 32 fun _ => .int .u8 0) 28)).setRow w1.heap.size (rowB 32 o)).heap[ga]? = some (.cells (rowB 32 o) 28 (0, 0)) from by rw [ega]; exact heap_setRow_at (heap_alloc_new _ _)); generalize (w1.alloc (.cells (row 32 fun _ => .int .u8 0) 28)).setRow w1.heap.size (rowB 32 o) = w4 at *; rw [← ega]; clear ega)
            | (go_at_call 62; refine (HX.out _ (HBB.out.below HB4.out) (HN1.out.below HB4.out) (HKA.out.below HB4.out)).mono ?_; rintro e w5 ⟨f2, ok, rfl, hup, hb5⟩; have HUP := Lib.hid hup; have HB5 := Lib.hid (below_keep HB4.out hb5); have HG5 := Lib.hid ((hb5.block _ (Array.getElem?_eq_some_iff.1 HG4.out).1).trans HG4.out); clear hb5 hup)
            | ((with_reducible show wpList _ _ _ (⟨_, .store 28 (.tmp 14) _, _, _, _, _⟩ :: _) _ _); refine wpList_store_rowTo rfl 28 (.tmp 14) _ rfl rfl w5.heap.size (rowB 32 f2) rfl rfl 28 _ (heap_alloc_new _ _) (HZ.out _) (by rw [row_size, rowB_size]) (rowB_oneCell _ _) ?_; obtain ⟨gb, egb⟩ : ∃ g, g = w5.heap.size := ⟨_, rfl⟩; have HB6 := Lib.hid (show Below w1.heap.size w1 ((w5.alloc (.cells (row 32 fun _ => .int .u8 0) 28)).setRow w5.heap.size (rowB 32 f2)) from below_setRow (below_allocS HB5.out _) HB5.out.size _); have HA6 := Lib.hid (show ((w5.alloc (.cells (row 32 fun _ => .int .u8 0) 28)).setRow w5.heap.size (rowB 32 f2)).heap[ga]? = some (.cells (rowB 32 o) 28 (0, 0)) from (heap_setRow_far (Nat.ne_of_lt (Array.getElem?_eq_some_iff.1 HG5.out).1)).trans ((Below.heap_alloc _ _ _ (Array.getElem?_eq_some_iff.1 HG5.out).1).trans HG5.out)); have HG6 := Lib.hid (show ((w5.alloc (.cells (row 32 fun _ => .int .u8 0) 28)).setRow w5.heap.size (rowB 32 f2)).heap[gb]? = some (.cells (rowB 32 f2) 28 (0, 0)) from by rw [egb]; exact heap_setRow_at (heap_alloc_new _ _)); generalize (w5.alloc (.cells (row 32 fun _ => .int .u8 0) 28)).setRow w5.heap.size (rowB 32 f2) = w6 at *; rw [← egb]; clear egb))
          clear hs1
          obtain ⟨h, hh⟩ : ∃ h, h = nodeS o f2 := ⟨_, rfl⟩
          have HH := Lib.hid hh
          have hX3 := HS3.out o f2
          rw [← hh] at hX3
          clear hh
          have HX3 := Lib.hid hX3
          clear hX3
          have hlt1 := (Array.getElem?_eq_some_iff.1 HR1.out).1
          have HR6 := Lib.hid ((HB6.out.block _ hlt1).trans HR1.out)
          have hlt6 := (Array.getElem?_eq_some_iff.1 HR6.out).1
          have HK6 := Lib.hid (HKA.out.below HB6.out)
          refine wp_region_plan (S := fun w' => w6.grownBy w' (some w.heap.size)) [1, 3, 6, 0, 2, 4, 5, 7, 8] [true, true, true, false, false, false, false, false, true] (by kernel_rfl) (by kernel_rfl) (grown_drew (grown_refl _ _)) (fun _ => ?_)
          simp only [List.filterMap_cons, List.filterMap_nil, List.getElem?_toArray, List.getElem?_cons_zero, List.getElem?_cons_succ]
          refine seqH_take (v := ?_) (Or.inl ⟨by rfl, ?_⟩) ?_
          rotate_left
          · (intro w hSw; go_simp; first | done | with_reducible rfl)
          try simp only [Act.put, List.setIfInBounds_toArray, List.set_cons_zero, List.set_cons_succ]
          refine seqH_take (v := ?_) (Or.inl ⟨by rfl, ?_⟩) ?_
          rotate_left
          · (intro w hSw; go_simp; first | done | with_reducible rfl)
          try simp only [Act.put, List.setIfInBounds_toArray, List.set_cons_zero, List.set_cons_succ]
          refine seqH_take (v := ?_) (Or.inl ⟨by rfl, ?_⟩) ?_
          rotate_left
          · (intro w hSw; go_simp; first | done | with_reducible rfl)
          try simp only [Act.put, List.setIfInBounds_toArray, List.set_cons_zero, List.set_cons_succ]
          refine seqH_go (fun K hK => ?_)
          rw [if_pos (by rfl)]
          refine wp_build_b_own (.const (.int .u8 1)) rfl 1 rfl w6.heap.size (Nat.le_refl _) ?_; intro g7 w7 hown7 hg7; have hB7 : Below w6.heap.size w6 w7 := (Below.refl _ _).drew.grown hg7 (Nat.le_refl _) (fun k hk => by cases hk)
          refine hK.out _ _ (grown_of_below hB7) (fun _ => ?_)
          clear hK K
          try simp only [Act.put, List.setIfInBounds_toArray, List.set_cons_zero, List.set_cons_succ]
          refine seqH_go (fun K hK => ?_)
          rw [if_pos (by rfl)]
          refine wp_append_B (.tmp 75) (.tmp 76) rfl w6.heap.size _ [1] ((List.range 32).map o) rfl hown7 (brow_num ((hB7.block _ (Array.getElem?_eq_some_iff.1 HA6.out).1).trans HA6.out)) (by simp) hB7.size ?_; intro v8 w8 hown8 hg8; have hB8 : Below w6.heap.size w6 w8 := hB7.grown hg8 hB7.size (fun k hk => (World.ownsRow.lt hown7 k hk).1)
          refine hK.out _ _ (grown_of_below hB8) (fun _ => ?_)
          clear hK K
          try simp only [Act.put, List.setIfInBounds_toArray, List.set_cons_zero, List.set_cons_succ]
          refine seqH_go (fun K hK => ?_)
          rw [if_pos (by rfl)]
          refine wp_append_B (.tmp 77) (.tmp 78) rfl w6.heap.size _ ([1] ++ (List.range 32).map o) ((List.range 32).map f2) rfl hown8 (brow_num ((hB8.block _ (Array.getElem?_eq_some_iff.1 HG6.out).1).trans HG6.out)) (by simp) hB8.size ?_; intro v9 w9 hown9 hg9; have hB9 : Below w6.heap.size w6 w9 := hB8.grown hg9 hB8.size (fun k hk => (World.ownsRow.lt hown8 k hk).1)
          refine hK.out _ _ (grown_of_below hB9) (fun _ => ?_)
          clear hK K
          try simp only [Act.put, List.setIfInBounds_toArray, List.set_cons_zero, List.set_cons_succ]
          refine seqH_go (fun K hK => ?_)
          rw [if_pos (by rfl)]
          go_simp; refine (HX3.out _ _ hown9.brow (HK6.out.below hB9)).mono ?_; rintro e w10 ⟨rfl, hb10⟩; dsimp only; have hB10 := below_keep hB9 hb10
          refine hK.out _ _ (grown_of_below hB10) (fun _ => ?_)
          clear hK K
          try simp only [Act.put, List.setIfInBounds_toArray, List.set_cons_zero, List.set_cons_succ]
          refine seqH_go (fun K hK => ?_)
          rw [if_pos (by rfl)]
          refine wpm_store (.tmp 8) (.tmp 80) rfl w.heap.size h rfl rfl 28 _ ((hB10.block _ hlt6).trans HR6.out) ?_; intro w11 h11 hg11
          refine hK.out _ _ (grown_trans (grown_of_below hB10) hg11) (fun _ => ?_)
          clear hK K
          try simp only [Act.put, List.setIfInBounds_toArray, List.set_cons_zero, List.set_cons_succ]
          refine seqH_take (v := ?_) (Or.inl ⟨by rfl, ?_⟩) ?_
          rotate_left
          · (intro w hSw; go_simp; first | done | with_reducible rfl)
          try simp only [Act.put, List.setIfInBounds_toArray, List.set_cons_zero, List.set_cons_succ]
          refine seqH_nil (NoPanic.normal ?_)
          have HB11 := Lib.hid ((below_keep HB1.out HB6.out).grown (grown_trans (grown_of_below hB10) hg11) (below_keep HB1.out HB6.out).size (fun k hk => by cases hk; exact Nat.le_refl _))
          have HG11 := Lib.hid h11
          clear hB7 hB8 hB9 hB10 hg7 hg8 hg9 hg11 h11 hb10 hown7 hown8 hown9
          go_wp2
          refine bodyPost_ret (results_two rfl _ _ w.heap.size 28 (rowB 32 h) (0, 0) _ _ rfl rfl HG11.out Tryd.underlying28 rfl (HZ.out _)) rfl ?_
          exact ⟨h, ok, rfl, by rw [HUR.out hik, HUP.out]; cases ok <;> simp [HH.out], HB11.out⟩

set_option maxRecDepth 100000 in
set_option maxHeartbeats 1000000 in
theorem refCheck_out (f : Nat → BitVec 8) (n i : Int) (v3 v4 : Value) (w : World) (h : n > 1048576 ∨ i < 0 ∨ n ≤ i) :
    Calls Tryd.prog 49 #[.agg (rowB 32 f), .int .i64 n, .int .i64 i, v3, v4] w fun e w' => e = .returned (.bool false) ∧ Below w.heap.size w w' := by
  have HB1 := Lib.hid (show Below w.heap.size w (w.alloc (.cells (rowB 32 f) 28)) from below_allocS (Below.refl _ _) _)
  by_cases h2 : i < 0
  · clear h
    go_enter Tryd.func49, Tryd.ntmps49
    go_wp2_with fail
    go_ret
    exact ⟨rfl, HB1.out⟩
  · by_cases h3 : n ≤ i
    · clear h
      go_enter Tryd.func49, Tryd.ntmps49
      go_wp2_with fail
      go_ret
      exact ⟨rfl, HB1.out⟩
    · have h1 : n > 1048576 := by omega
      clear h
      go_enter Tryd.func49, Tryd.ntmps49
      go_wp2_with fail
      go_ret
      exact ⟨rfl, HB1.out⟩

set_option maxRecDepth 100000 in
set_option maxHeartbeats 2000000 in
theorem refCheck_in (root : Nat → BitVec 8) (n i : Nat) (B A : Option Addr) (cb P c : Nat) (b : List (BitVec 8)) (p : List (Nat → BitVec 8)) (w : World) (hb : BRow w (.slice B b.length cb) b) (hbl : b.length ≤ 99999900) (hp : NRow w (.slice A P c) p) (hP : P = p.length) (hc : P ≤ c) (hPl : P ≤ 100000000) (hn : n ≤ 1048576) (hi : i < n) (hka : KAt w) :
    Calls Tryd.prog 49 #[.agg (rowB 32 root), .int .i64 (n : Int), .int .i64 (i : Int), .slice B b.length cb, .slice A P c] w fun e w' => e = .returned (.bool (ansS root (upS n i b p))) ∧ Below w.heap.size w w' := by
  have hn1 : ¬ (1048576 < (n : Int)) := by omega
  have hi0 : (0 : Int) ≤ (i : Int) := by omega
  have hi1 : (i : Int) < (n : Int) := by omega
  have hi2 : ¬ ((i : Int) < 0) := by omega
  have hi3 : ¬ ((n : Int) ≤ (i : Int)) := by omega
  have HBA := Lib.hid (show Below w.heap.size w (w.alloc (.cells (rowB 32 root) 28)) from below_allocS (Below.refl _ _) _)
  have HGA := Lib.hid (show (w.alloc (.cells (rowB 32 root) 28)).heap[w.heap.size]? = some (.cells (rowB 32 root) 28 (0, 0)) from heap_alloc_new _ _)
  have HU := Lib.hid (up_any b B cb hbl n i p A P c (w.alloc (.cells (rowB 32 root) 28)) hi (by omega) hP hc hPl (hb.below HBA.out) (hp.below HBA.out) (hka.below HBA.out))
  have HZ := Lib.hid (fun f : Nat → BitVec 8 => show (Tryd.prog.info? 28).map (·.size) = some (rowB 32 f).size by rw [size32, rowB_size])
  obtain ⟨W, hW⟩ : ∃ W, W = w.alloc (.cells (rowB 32 root) 28) := ⟨_, rfl⟩
  rw [← hW] at HBA HGA HU
  have HW := Lib.hid hW
  have hel := eqlNum
  clear hb hp hP hc hka hbl hPl hn hW
  go_enter Tryd.func49, Tryd.ntmps49
  go_wp2_with (first
    | (go_at_call 62; rw [← HW.out]; refine HU.out.mono ?_; rintro e w2 ⟨f, ok, rfl, hup, hb2⟩; have HUP := Lib.hid hup; have HB2 := Lib.hid (below_keep HBA.out hb2); have HG2 := Lib.hid ((hb2.block _ (Array.getElem?_eq_some_iff.1 HGA.out).1).trans HGA.out); clear hb2 hup)
    | (with_reducible refine wpList_alloc_row rfl 28 rfl 32 _ info32 ?_)
    | ((with_reducible show wpList _ _ _ (⟨_, .store 28 _ _, _, _, _, _⟩ :: _) _ _); refine wpList_store_rowTo rfl 28 _ _ rfl rfl w2.heap.size (rowB 32 f) rfl rfl 28 _ (heap_alloc_new _ _) (HZ.out _) (by rw [row_size, rowB_size]) (rowB_oneCell _ _) ?_; obtain ⟨g, eg⟩ : ∃ g, g = w2.heap.size := ⟨_, rfl⟩; have HB3 := Lib.hid (show Below w.heap.size w ((w2.alloc (.cells (row 32 fun _ => .int .u8 0) 28)).setRow w2.heap.size (rowB 32 f)) from below_setRow (below_allocS HB2.out _) HB2.out.size _); have HA3 := Lib.hid (show ((w2.alloc (.cells (row 32 fun _ => .int .u8 0) 28)).setRow w2.heap.size (rowB 32 f)).heap[w.heap.size]? = some (.cells (rowB 32 root) 28 (0, 0)) from (heap_setRow_far (Nat.ne_of_lt (Array.getElem?_eq_some_iff.1 HG2.out).1)).trans ((Below.heap_alloc _ _ _ (Array.getElem?_eq_some_iff.1 HG2.out).1).trans HG2.out)); have HG3 := Lib.hid (show ((w2.alloc (.cells (row 32 fun _ => .int .u8 0) 28)).setRow w2.heap.size (rowB 32 f)).heap[g]? = some (.cells (rowB 32 f) 28 (0, 0)) from by rw [eg]; exact heap_setRow_at (heap_alloc_new _ _)); generalize (w2.alloc (.cells (row 32 fun _ => .int .u8 0) 28)).setRow w2.heap.size (rowB 32 f) = w3 at *; rw [← eg]; clear eg; cases ok)
    | ((with_reducible show wpList _ _ _ (⟨some 34, .load 28 _, _, _, _, _⟩ :: _) _ _); refine wpList_taken_load (by rfl) _ rfl g rfl 28 f HG3.out ?_)
    | ((with_reducible show wpList _ _ _ (⟨some 35, .load 28 _, _, _, _, _⟩ :: _) _ _); refine wpList_taken_load (by rfl) _ rfl w.heap.size rfl 28 root HA3.out ?_))
  · go_ret
    exact ⟨by rw [HUP.out]; rfl, HB3.out⟩
  · go_ret
    exact ⟨by rw [HUP.out, if_pos trivial]; rfl, HB3.out⟩

theorem refCheck_any (root : Nat → BitVec 8) (n i : Int) (B A : Option Addr) (cb P c : Nat) (b : List (BitVec 8)) (p : List (Nat → BitVec 8)) (w : World) (hb : BRow w (.slice B b.length cb) b) (hbl : b.length ≤ 99999900) (hp : NRow w (.slice A P c) p) (hP : P = p.length) (hc : P ≤ c) (hPl : P ≤ 100000000) (hka : KAt w) :
    Calls Tryd.prog 49 #[.agg (rowB 32 root), .int .i64 n, .int .i64 i, .slice B b.length cb, .slice A P c] w fun e w' => e = .returned (.bool (checkS root n i b p)) ∧ Below w.heap.size w w' := by
  unfold checkS
  by_cases h : n > 1048576 ∨ i < 0 ∨ n ≤ i
  · rw [if_pos h]
    exact refCheck_out root n i _ _ w h
  · rw [if_neg h, climb_up b p (show i.toNat < n.toNat by omega)]
    have := refCheck_in root n.toNat i.toNat B A cb P c b p w hb hbl hp hP hc hPl (by omega) (by omega) hka
    rw [show ((n.toNat : Nat) : Int) = n by omega, show ((i.toNat : Nat) : Int) = i by omega] at this
    exact this

end Go.Proofs.YtnnllficjljjkaaDoor
