/-
  The example of the document: the hash of three letters; helpers for lists that a call lays.
-/
import Derived.Test.YtnnllficjljjkaaDoorSmall
import Derived.Test.YtnnllficjljjkaaDoorEval
import Derived.Lib.SlBytesConst
namespace Go.Proofs.YtnnllficjljjkaaDoor
open Go.RowKit
set_option linter.unusedVariables false

theorem brow_num {w : World} {g c : Nat} {f : Nat → BitVec 8} {t : TypeId} {fr : Nat × Nat} (h : w.heap[g]? = some (.cells (rowB 32 f) t fr)) : BRow w (.slice (some ⟨g, 0, none⟩) 32 c) ((List.range 32).map f) :=
  ⟨_, c, rfl, (fun hc => by cases hc), fun _ => ⟨g, 0, rfl, (Array.getElem?_eq_some_iff.1 h).1, fun i hi => by
    have hi' : i < 32 := by simpa using hi
    rw [Nat.zero_add, cell_rowB h hi']
    simp⟩⟩
theorem brow_mk {w : World} {g c : Nat} {t : TypeId} {fr : Nat × Nat} (l : List (BitVec 8)) (h : w.heap[g]? = some (.cells (l.map fun x => Value.int .u8 (B8 x)).toArray t fr)) : BRow w (.slice (some ⟨g, 0, none⟩) l.length c) l :=
  ⟨_, c, rfl, (fun hc => by cases hc), fun _ => ⟨g, 0, rfl, (Array.getElem?_eq_some_iff.1 h).1, fun i hi => by
    rw [Nat.zero_add, cell_of_row w g _ _ _ _ h]
    simp [hi]⟩⟩
theorem brows_mk {w : World} {g c : Nat} {t : TypeId} {fr : Nat × Nat} (vs : List Value) (ms : List (List (BitVec 8))) (h : w.heap[g]? = some (.cells vs.toArray t fr)) (hl : vs.length = ms.length)
    (hb : ∀ (i : Nat) (h : i < ms.length), BRow w (vs[i]'(by omega)) ms[i]) : BRows w (.slice (some ⟨g, 0, none⟩) ms.length c) ms :=
  ⟨_, c, rfl, (fun hc => by cases hc), fun _ => ⟨g, 0, rfl, (Array.getElem?_eq_some_iff.1 h).1, fun i hi => by
    refine ⟨vs[i]'(by omega), ?_, hb i hi⟩
    rw [Nat.zero_add, cell_of_row w g _ _ _ _ h]
    simp [show i < vs.length by omega]⟩⟩
theorem brows_one {w : World} {g c : Nat} {t : TypeId} {fr : Nat × Nat} {v : Value} {m : List (BitVec 8)} (h : w.heap[g]? = some (.cells #[v] t fr)) (hb : BRow w v m) : BRows w (.slice (some ⟨g, 0, none⟩) 1 c) [m] :=
  brows_mk [v] [m] h rfl fun i hi => by
    obtain rfl : i = 0 := by simpa using hi
    exact hb
theorem brows_two {w : World} {g c : Nat} {t : TypeId} {fr : Nat × Nat} {v0 v1 : Value} {m0 m1 : List (BitVec 8)} (h : w.heap[g]? = some (.cells #[v0, v1] t fr)) (h0 : BRow w v0 m0) (h1 : BRow w v1 m1) : BRows w (.slice (some ⟨g, 0, none⟩) 2 c) [m0, m1] :=
  brows_mk [v0, v1] [m0, m1] h rfl fun i hi => by
    have : i = 0 ∨ i = 1 := by simp at hi; omega
    rcases this with rfl | rfl
    · exact h0
    · exact h1
theorem brows_three {w : World} {g c : Nat} {t : TypeId} {fr : Nat × Nat} {v0 v1 v2 : Value} {m0 m1 m2 : List (BitVec 8)} (h : w.heap[g]? = some (.cells #[v0, v1, v2] t fr)) (h0 : BRow w v0 m0) (h1 : BRow w v1 m1) (h2 : BRow w v2 m2) : BRows w (.slice (some ⟨g, 0, none⟩) 3 c) [m0, m1, m2] :=
  brows_mk [v0, v1, v2] [m0, m1, m2] h rfl fun i hi => by
    have : i = 0 ∨ i = 1 ∨ i = 2 := by simp at hi; omega
    rcases this with rfl | rfl | rfl
    · exact h0
    · exact h1
    · exact h2
theorem brows_four {w : World} {g c : Nat} {t : TypeId} {fr : Nat × Nat} {v0 v1 v2 v3 : Value} {m0 m1 m2 m3 : List (BitVec 8)} (h : w.heap[g]? = some (.cells #[v0, v1, v2, v3] t fr)) (h0 : BRow w v0 m0) (h1 : BRow w v1 m1) (h2 : BRow w v2 m2) (h3 : BRow w v3 m3) : BRows w (.slice (some ⟨g, 0, none⟩) 4 c) [m0, m1, m2, m3] :=
  brows_mk [v0, v1, v2, v3] [m0, m1, m2, m3] h rfl fun i hi => by
    have : i = 0 ∨ i = 1 ∨ i = 2 ∨ i = 3 := by simp at hi; omega
    rcases this with rfl | rfl | rfl | rfl
    · exact h0
    · exact h1
    · exact h2
    · exact h3

theorem num_eval (m : List (BitVec 8)) (hs : List (BitVec 32)) (h : blocksL (fun i => (pad m).getD i 0) ((pad m).length / 64) = hs) : (List.range 32).map (sha m) = (List.range 32).map (outOf fun j => hs.getD j 0) :=
  List.map_congr_left fun i hi => sha_at m hs h (List.mem_range.1 hi)

theorem below_keep {W w' w1 : World} (h : Below W.heap.size W w') (hb : Below w'.heap.size w' w1) : Below W.heap.size W w1 := h.trans (hb.mono h.size)
theorem below_allocS {W w' : World} (h : Below W.heap.size W w') (o : Obj) : Below W.heap.size W (w'.alloc o) := h.alloc h.size o

theorem abc_hex : strB (hexB ((List.range 32).map (sha [97, 98, 99]))) = { data := #[98, 97, 55, 56, 49, 54, 98, 102, 56, 102, 48, 49, 99, 102, 101, 97, 52, 49, 52, 49, 52, 48, 100, 101, 53, 100, 97, 101, 50, 50, 50, 51, 98, 48, 48, 51, 54, 49, 97, 51, 57, 54, 49, 55, 55, 97, 57, 99, 98, 52, 49, 48, 102, 102, 54, 49, 102, 50, 48, 48, 49, 53, 97, 100] } := by
  rw [num_eval _ _ abc_blocks]
  decide +kernel

set_option maxRecDepth 100000 in
set_option maxHeartbeats 400000 in
theorem alive5_any (w : World) : Calls Tryd.prog 21 #[] w fun e w' => e = .returned (.bool true) ∧ Below w.heap.size w w' := by
  have kc := fun (w : World) (C : Array Value) (n c : Nat) => Lib.run_convert_bytes_const (P := Tryd.prog) w 25 5 C n c Tryd.underlying25 Tryd.underlying5
  have HSZ := Lib.hid (show (Tryd.prog.info? 28).map (·.size) = some (rowB 32 (sha [97, 98, 99])).size by rw [size32, rowB_size])
  go_enter Tryd.func21, Tryd.ntmps21
  go_wp2_with (first
    | (go_at_call 25; refine (sum_any _ [[97, 98, 99]] _ ?a1 (by decide) (by decide)).mono ?_; rotate_left; rintro e w1 ⟨rfl, hb1⟩)
    | (with_reducible refine wpList_alloc_row rfl 28 rfl 32 _ info32 ?_)
    | ((with_reducible show wpList _ _ _ (⟨_, .store 28 _ _, _, _, _, _⟩ :: _) _ _); refine wpList_store_rowTo rfl 28 _ _ rfl rfl _ (rowB 32 (sha [97, 98, 99])) rfl rfl 28 _ (heap_alloc_new _ _) HSZ.out (by rw [row_size, rowB_size]) (rowB_oneCell _ _) ?_)
    | (go_at_call 50; refine (hex_any _ ((List.range 32).map (sha [97, 98, 99])) _ ?a2 (by simp)).mono ?_; rotate_left; rintro e w2 ⟨rfl, hb2⟩; rw [abc_hex]))
  case a1 => exact brows_one (heap_alloc2_new _ _ _) (brow_mk [97, 98, 99] (heap_alloc2_old _ _ _))
  case a2 => exact brow_num (heap_setRow_at (heap_alloc_new _ _))
  go_ret
  have hz := hb1.size
  simp at hz
  refine ⟨by simp, ?_⟩
  refine Below.trans ?_ (hb2.mono (by simp [World.setRow]; omega))
  refine below_setRow (Below.alloc ?_ (by omega) _) (by omega) _
  exact ((((Below.refl _ _).alloc (Nat.le_refl _) _).alloc (by simp) _)).trans (hb1.mono (by simp; omega))

end Go.Proofs.YtnnllficjljjkaaDoor
