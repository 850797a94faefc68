/-
  The document's own set of blocks: the walks of NewSet, Turn, Has, Missing.
-/
import Derived.Test.YtdcndfcdjlpecaaRecw
namespace Go.Proofs.Ytdcndfcdjlpecaa
open Go.RowKit
set_option linter.unusedVariables false
set_option linter.unusedSimpArgs false

/-- A row of bools. -/
def rowL (n : Nat) (f : Nat → Bool) : Array Value := row n fun i => .bool (f i)
theorem rowL_size (n : Nat) (f : Nat → Bool) : (rowL n f).size = n := row_size _ _
theorem cell_rowL {w : World} {g n i : Nat} {f : Nat → Bool} {t : TypeId} {fr : Nat × Nat} (hg : w.heap[g]? = some (.cells (rowL n f) t fr)) (h : i < n) : w.cell? ⟨g, i, none⟩ = some (.bool (f i)) := cell_row hg h
theorem heap_set_rowL {w : World} {g n i : Nat} {f : Nat → Bool} {t : TypeId} (x : Bool) (hg : w.heap[g]? = some (.cells (rowL n f) t (0, 0))) (h : i < n) :
    (w.setCell ⟨g, i, none⟩ (.bool x)).heap[g]? = some (.cells (rowL n (upd f i x)) t (0, 0)) := by
  unfold rowL at hg ⊢
  rw [heap_set_row _ hg h]
  congr 2
  exact row_congr fun j _ => by unfold upd; split <;> rfl
theorem made_rowL (n : Nat) : madeCells #[Value.bool false] n = rowL n fun _ => false := by
  apply Array.ext'
  rw [toList_madeCells_one]
  simp only [rowL, row, List.toList_toArray]
  rw [List.map_const', List.length_range]
theorem info_bool : (Try.prog.info? 4).map (fun i => (i.zero, i.size, i.bytes)) = some (some (.bool false), 1, 1) := by kernel_rfl
theorem make_L (n : Nat) (h : n ≤ 1000000) (w : World) : (Instr.makeSlice 42 (.int .i64 (n : Int)) (.int .i64 (n : Int))).run Try.prog w = .ok (.slice (some ⟨w.heap.size, 0, none⟩) n n) (w.alloc (.cells (rowL n fun _ => false) 4)) := by
  rw [← made_rowL]
  exact run_make_row' 42 4 _ 1 Try.underlying42 info_bool rfl .i64 .i64 n (by omega) (by omega) w

structure RSetAt (w : World) (g gw n : Nat) (b : Nat → Bool) : Prop where
  hs : w.heap[g]? = some (.cells #[.slice (some ⟨gw, 0, none⟩) n n] 49 (0, 0))
  hw : w.heap[gw]? = some (.cells (rowL n b) 4 (0, 0))
  ne : g ≠ gw
theorem RSetAt.c0 {w : World} {g gw n : Nat} {b : Nat → Bool} (h : RSetAt w g gw n b) : w.cell? ⟨g, 0, none⟩ = some (.slice (some ⟨gw, 0, none⟩) n n) := by rw [cell_of_row w g 0 _ _ _ h.hs]; rfl
theorem RSetAt.below {w w' : World} {g gw n : Nat} {b : Nat → Bool} (h : RSetAt w g gw n b) (hb : Below w.heap.size w w') : RSetAt w' g gw n b :=
  ⟨(hb.block _ (Array.getElem?_eq_some_iff.1 h.hs).1).trans h.hs, (hb.block _ (Array.getElem?_eq_some_iff.1 h.hw).1).trans h.hw, h.ne⟩
theorem RSetAt.grown {w w' : World} {g gw n k : Nat} {b : Nat → Bool} (h : RSetAt w g gw n b) (hg : w.grownBy w' (some k)) (h1 : g ≠ k) (h2 : gw ≠ k) : RSetAt w' g gw n b :=
  ⟨(hg.block _ (Array.getElem?_eq_some_iff.1 h.hs).1 (by intro e; injection e with e; exact h1 e)).trans h.hs, (hg.block _ (Array.getElem?_eq_some_iff.1 h.hw).1 (by intro e; injection e with e; exact h2 e)).trans h.hw, h.ne⟩

set_option maxRecDepth 100000 in
set_option maxHeartbeats 1000000 in
theorem newSet_zero (v : Int) (hv : v < 0) (w : World) :
    Calls Try.prog 22 #[.int .i64 v] w fun e w' => ∃ g gw, e = .returned (.pointer (some ⟨g, 0, none⟩)) ∧ RSetAt w' g gw 0 (fun _ => false) ∧ w.heap.size ≤ g ∧ w.heap.size ≤ gw ∧ Below w.heap.size w w' := by
  have hmk : ∀ w, (Instr.makeSlice 42 (.int .i64 0) (.int .i64 0)).run Try.prog w = .ok (.slice (some ⟨w.heap.size, 0, none⟩) 0 0) (w.alloc (.cells (rowL 0 fun _ => false) 4)) := fun w => make_L 0 (by decide) w
  have HG := Lib.hid (show RSetAt ((w.alloc (.cells (rowL 0 fun _ => false) 4)).alloc (.cells #[.slice (some ⟨w.heap.size, 0, none⟩) 0 0] 49)) (w.heap.size + 1) w.heap.size 0 (fun _ => false) from ⟨heap_alloc2_new _ _ _, heap_alloc2_old _ _ _, by omega⟩)
  have HB := Lib.hid (show Below w.heap.size w ((w.alloc (.cells (rowL 0 fun _ => false) 4)).alloc (.cells #[.slice (some ⟨w.heap.size, 0, none⟩) 0 0] 49)) from (((Below.refl _ _).alloc (Nat.le_refl _) _).alloc (by simp) _))
  go_enter Try.func22, Try.ntmps22
  go_wp2_with fail
  go_ret
  exact ⟨_, rfl, _, HG.out, by omega, by omega, HB.out⟩

set_option maxRecDepth 100000 in
set_option maxHeartbeats 1000000 in
theorem newSet_big (v : Int) (hv : 4096 < v) (w : World) :
    Calls Try.prog 22 #[.int .i64 v] w fun e w' => ∃ g gw, e = .returned (.pointer (some ⟨g, 0, none⟩)) ∧ RSetAt w' g gw 4096 (fun _ => false) ∧ w.heap.size ≤ g ∧ w.heap.size ≤ gw ∧ Below w.heap.size w w' := by
  have hv0 : 0 ≤ v := by omega
  have hmk : ∀ w, (Instr.makeSlice 42 (.int .i64 4096) (.int .i64 4096)).run Try.prog w = .ok (.slice (some ⟨w.heap.size, 0, none⟩) 4096 4096) (w.alloc (.cells (rowL 4096 fun _ => false) 4)) := fun w => make_L 4096 (by decide) w
  have HG := Lib.hid (show RSetAt ((w.alloc (.cells (rowL 4096 fun _ => false) 4)).alloc (.cells #[.slice (some ⟨w.heap.size, 0, none⟩) 4096 4096] 49)) (w.heap.size + 1) w.heap.size 4096 (fun _ => false) from ⟨heap_alloc2_new _ _ _, heap_alloc2_old _ _ _, by omega⟩)
  have HB := Lib.hid (show Below w.heap.size w ((w.alloc (.cells (rowL 4096 fun _ => false) 4)).alloc (.cells #[.slice (some ⟨w.heap.size, 0, none⟩) 4096 4096] 49)) from (((Below.refl _ _).alloc (Nat.le_refl _) _).alloc (by simp) _))
  go_enter Try.func22, Try.ntmps22
  go_wp2_with fail
  go_ret
  exact ⟨_, rfl, _, HG.out, by omega, by omega, HB.out⟩

set_option maxRecDepth 100000 in
set_option maxHeartbeats 1000000 in
theorem newSet_some (n : Nat) (hn : n ≤ 4096) (w : World) :
    Calls Try.prog 22 #[.int .i64 (n : Int)] w fun e w' => ∃ g gw, e = .returned (.pointer (some ⟨g, 0, none⟩)) ∧ RSetAt w' g gw n (fun _ => false) ∧ w.heap.size ≤ g ∧ w.heap.size ≤ gw ∧ Below w.heap.size w w' := by
  have hv0 : (0 : Int) ≤ (n : Int) := by omega
  have hv1 : (n : Int) ≤ 4096 := by omega
  have hmk : ∀ w, (Instr.makeSlice 42 (.int .i64 (n : Int)) (.int .i64 (n : Int))).run Try.prog w = .ok (.slice (some ⟨w.heap.size, 0, none⟩) n n) (w.alloc (.cells (rowL n fun _ => false) 4)) := fun w => make_L n (by omega) w
  have HG := Lib.hid (show RSetAt ((w.alloc (.cells (rowL n fun _ => false) 4)).alloc (.cells #[.slice (some ⟨w.heap.size, 0, none⟩) n n] 49)) (w.heap.size + 1) w.heap.size n (fun _ => false) from ⟨heap_alloc2_new _ _ _, heap_alloc2_old _ _ _, by omega⟩)
  have HB := Lib.hid (show Below w.heap.size w ((w.alloc (.cells (rowL n fun _ => false) 4)).alloc (.cells #[.slice (some ⟨w.heap.size, 0, none⟩) n n] 49)) from (((Below.refl _ _).alloc (Nat.le_refl _) _).alloc (by simp) _))
  go_enter Try.func22, Try.ntmps22
  go_wp2_with fail
  go_ret
  exact ⟨_, rfl, _, HG.out, by omega, by omega, HB.out⟩

theorem newSet_any (v : Int) (w : World) : Calls Try.prog 22 #[.int .i64 v] w fun e w' => ∃ g gw, e = .returned (.pointer (some ⟨g, 0, none⟩)) ∧ RSetAt w' g gw (clampN v) (fun _ => false) ∧ w.heap.size ≤ g ∧ w.heap.size ≤ gw ∧ Below w.heap.size w w' := by
  by_cases h0 : v < 0
  · rw [show clampN v = 0 by unfold clampN; omega]
    exact newSet_zero v h0 w
  · by_cases h1 : 4096 < v
    · rw [show clampN v = 4096 by unfold clampN; omega]
      exact newSet_big v h1 w
    · have := newSet_some v.toNat (by omega) w
      rw [show ((v.toNat : Nat) : Int) = v by omega, show v.toNat = clampN v by unfold clampN; omega] at this
      exact this

def rputB (n : Nat) (b : Nat → Bool) (i : Int) (to : Bool) : Bool := decide (0 ≤ i ∧ i < (n : Int)) && (b i.toNat != to)
def rputX (n : Nat) (b : Nat → Bool) (i : Int) (to : Bool) : Nat → Bool := if rputB n b i to then upd b i.toNat to else b

set_option maxRecDepth 100000 in
set_option maxHeartbeats 1000000 in
theorem rturn_in (g gw n k : Nat) (b : Nat → Bool) (to : Bool) (w : World) (hS : RSetAt w g gw n b) (hk : k < n) (hb : b k = !to) :
    Calls Try.prog 24 #[.pointer (some ⟨g, 0, none⟩), .int .i64 (k : Int), .bool to] w fun e w' => e = .returned (.bool true) ∧ RSetAt w' g gw n (upd b k to) ∧ w.grownBy w' (some gw) := by
  have HS := Lib.hid hS
  have hc0 := hS.c0
  have hcw : w.cell? ⟨gw, k, none⟩ = some (.bool (!to)) := by rw [← hb]; exact cell_rowL hS.hw hk
  have hfw : w.frozen? ⟨gw, k, none⟩ = false := frozen_of_row w _ _ _ _ hS.hw
  have hk0 : (0 : Int) ≤ (k : Int) := by omega
  have hk1 : (k : Int) < (n : Int) := by omega
  have HN := Lib.hid (show RSetAt (w.setCell ⟨gw, k, none⟩ (.bool to)) g gw n (upd b k to) from ⟨(heap_setCell_other _ _ _ _ hS.ne).trans hS.hs, heap_set_rowL _ hS.hw hk, hS.ne⟩)
  have HG := Lib.hid (show w.grownBy (w.setCell ⟨gw, k, none⟩ (.bool to)) (some gw) from grown_setCell (grown_refl _ _) (.inr rfl) _)
  clear hS hb
  go_enter Try.func24, Try.ntmps24
  go_wp2_with fail
  go_ret
  exact ⟨rfl, HN.out, HG.out⟩
set_option maxHeartbeats 1000000 in
theorem rturn_not (g gw n : Nat) (i : Int) (b : Nat → Bool) (to : Bool) (w : World) (hS : RSetAt w g gw n b) (hp : rputB n b i to = false) :
    Calls Try.prog 24 #[.pointer (some ⟨g, 0, none⟩), .int .i64 i, .bool to] w fun e w' => e = .returned (.bool false) ∧ w = w' := by
  have hc0 := hS.c0
  by_cases h0 : i < 0
  · clear hp
    go_enter Try.func24, Try.ntmps24
    go_wp2_with fail
    go_ret
    exact ⟨rfl, rfl⟩
  · by_cases h1 : (n : Int) ≤ i
    · clear hp
      go_enter Try.func24, Try.ntmps24
      go_wp2_with fail
      go_ret
      exact ⟨rfl, rfl⟩
    · obtain ⟨k, rfl⟩ : ∃ k : Nat, i = (k : Int) := ⟨i.toNat, by omega⟩
      have hk : k < n := by omega
      have hb : b k = to := by
        unfold rputB at hp
        rw [decide_eq_true (by omega), Bool.true_and] at hp
        simpa using hp
      have hk0 : (0 : Int) ≤ (k : Int) := by omega
      have hk1 : (k : Int) < (n : Int) := by omega
      have hcw : w.cell? ⟨gw, k, none⟩ = some (.bool to) := by rw [← hb]; exact cell_rowL hS.hw hk
      clear hp hb h0 h1
      go_enter Try.func24, Try.ntmps24
      go_wp2_with fail
      go_ret
      exact ⟨rfl, rfl⟩
theorem rturn_any (g gw n : Nat) (i : Int) (b : Nat → Bool) (to : Bool) (w : World) (hS : RSetAt w g gw n b) :
    Calls Try.prog 24 #[.pointer (some ⟨g, 0, none⟩), .int .i64 i, .bool to] w fun e w' => e = .returned (.bool (rputB n b i to)) ∧ RSetAt w' g gw n (rputX n b i to) ∧ w.grownBy w' (some gw) := by
  unfold rputX
  cases hp : rputB n b i to with
  | false =>
    refine (rturn_not g gw n i b to w hS hp).mono ?_
    rintro e w' ⟨rfl, rfl⟩
    exact ⟨rfl, hS, grown_refl _ _⟩
  | true =>
    unfold rputB at hp
    rw [Bool.and_eq_true] at hp
    have h1 := of_decide_eq_true hp.1
    have h2 : b i.toNat = !to := by
      have := hp.2
      cases hb : b i.toNat <;> cases to <;> simp_all
    have := rturn_in g gw n i.toNat b to w hS (by omega) h2
    rw [show ((i.toNat : Nat) : Int) = i by omega] at this
    rw [if_pos rfl]
    exact this

def rhasF (n : Nat) (b : Nat → Bool) (i : Int) : Bool := decide (0 ≤ i ∧ i < (n : Int)) && b i.toNat
set_option maxHeartbeats 1000000 in
theorem rhas_any (g gw n : Nat) (i : Int) (b : Nat → Bool) (w : World) (hS : RSetAt w g gw n b) :
    Calls Try.prog 25 #[.pointer (some ⟨g, 0, none⟩), .int .i64 i] w fun e w' => e = .returned (.bool (rhasF n b i)) ∧ w = w' := by
  have hc0 := hS.c0
  by_cases h0 : i < 0
  · rw [show rhasF n b i = false by unfold rhasF; rw [decide_eq_false (by omega)]; rfl]
    go_enter Try.func25, Try.ntmps25
    go_wp2_with fail
    go_ret
    exact ⟨rfl, rfl⟩
  · by_cases h1 : (n : Int) ≤ i
    · rw [show rhasF n b i = false by unfold rhasF; rw [decide_eq_false (by omega)]; rfl]
      have h2 : 0 ≤ i := by omega
      clear h0
      go_enter Try.func25, Try.ntmps25
      go_wp2_with fail
      go_ret
      exact ⟨rfl, rfl⟩
    · obtain ⟨k, rfl⟩ : ∃ k : Nat, i = (k : Int) := ⟨i.toNat, by omega⟩
      have hk : k < n := by omega
      rw [show rhasF n b (k : Int) = b k by unfold rhasF; rw [decide_eq_true (by omega), Int.toNat_natCast]; rfl]
      have hk0 : (0 : Int) ≤ (k : Int) := by omega
      have hk1 : (k : Int) < (n : Int) := by omega
      have hcw : w.cell? ⟨gw, k, none⟩ = some (.bool (b k)) := cell_rowL hS.hw hk
      clear h0 h1
      go_enter Try.func25, Try.ntmps25
      go_wp2_with fail
      go_ret
      exact ⟨rfl, rfl⟩

set_option maxRecDepth 100000 in
set_option maxHeartbeats 1000000 in
theorem rmissing_any (g gw n : Nat) (b : Nat → Bool) (w : World) (hS : RSetAt w g gw n b) (hn : n ≤ 4096) :
    Calls Try.prog 26 #[.pointer (some ⟨g, 0, none⟩)] w fun e w' => ∃ v, e = .returned v ∧ IRow w' v (missF n b) ∧ Below w.heap.size w w' := by
  have HS := Lib.hid hS
  clear hS
  go_enter Try.func26, Try.ntmps26
  go_wp2_with fail
  go_loopw [3, 4] (fun o i wr => ∃ k : Nat, k ≤ n ∧ i = .int .i64 k ∧ OwnI wr w.heap.size o (missF k b) ∧ Below w.heap.size w wr) (fun _ i _ => n - (intOf i).toNat)
  case atStart => exact ⟨0, Nat.zero_le _, rfl, World.ownsRow_nil _ _ _ _, Below.refl _ _⟩
  case round =>
    obtain ⟨k, hk, rfl, ho, hb⟩ := hrel
    have HB := Lib.hid hb
    have HO := Lib.hid ho
    have HSR := Lib.hid (HS.out.below hb)
    have hc0 := HSR.out.c0
    obtain ⟨ao, co, eo⟩ := ho.shape
    subst eo
    clear ho hb
    have hk0 : (0 : Int) ≤ (k : Int) := by omega
    by_cases hlt : k < n
    · have hk1 : (k : Int) < (n : Int) := by omega
      have hk2 : (k : Int) < 4096 := by omega
      have hml : (missF k b).length ≤ k := by have := missF_length b k; omega
      have HML := Lib.hid hml
      clear hml
      cases hbk : b k with
      | true =>
        have hcw : wr.cell? ⟨gw, k, none⟩ = some (.bool true) := by rw [← hbk]; exact cell_rowL HSR.out.hw hlt
        have HST := Lib.hid (show missF (k + 1) b = missF k b from missF_skip (i := k) (by omega) fun j h1 h2 => by rw [show j = k by omega]; exact hbk)
        clear hbk
        go_wp2_with fail
        go_roundw
        case rel => exact ⟨k + 1, by omega, by go_num, by rw [HST.out]; exact HO.out, HB.out⟩
        case measure => simp [intOf]; omega
      | false =>
        have hcw : wr.cell? ⟨gw, k, none⟩ = some (.bool false) := by rw [← hbk]; exact cell_rowL HSR.out.hw hlt
        have HST := Lib.hid (missF_step hbk)
        clear hbk
        obtain ⟨l, hl⟩ : ∃ l, l = missF k b := ⟨_, rfl⟩
        rw [← hl] at HST HML HO ⊢
        clear hl
        have HI := Lib.hid (irow_one (c := 1) (t := 3) (fr := (0, 0)) (k : Int) (heap_alloc_new wr (.cells #[.int .i64 (k : Int)] 3)))
        have HO1 := Lib.hid (show OwnI (wr.alloc (.cells #[.int .i64 (k : Int)] 3)) w.heap.size _ l from World.ownsRow.kept0 HO.out (grown_alloc (grown_refl _ _) _))
        have HB1 := Lib.hid (show Below w.heap.size w (wr.alloc (.cells #[.int .i64 (k : Int)] 3)) from HB.out.alloc HB.out.size _)
        go_wp2_with (at_builtin; refine wpList_append_I rfl (.tmp 22) (.tmp 24) rfl w.heap.size _ l [(k : Int)] rfl HO1.out HI.out (by have := HML.out; simp; omega) HB1.out.size ?_; intro v4 w4 hown4 hg4; rw [← HST.out] at hown4; have HO4 := Lib.hid hown4; have HB4 := Lib.hid (HB1.out.grown hg4 HB1.out.size (fun b hb => (World.ownsRow.lt HO1.out b hb).1)); clear hown4 hg4)
        go_roundw
        case rel => exact ⟨k + 1, by omega, by go_num, HO4.out, HB4.out⟩
        case measure => simp [intOf]; omega
    · obtain rfl : k = n := by omega
      go_wp2_with fail
      go_ret
      exact ⟨_, rfl, HO.out.irow, HB.out⟩

end Go.Proofs.Ytdcndfcdjlpecaa
