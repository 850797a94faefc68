/-
  The walk of the law MerkleTurned: the cases that append.
-/
import Derived.Test.YtnnllficjljjkaaDoorMkTA
import Derived.StillTailTactics
namespace Go.Proofs.YtnnllficjljjkaaDoor
open Go.RowKit
set_option linter.unusedVariables false
set_option linter.unusedSimpArgs false

set_option maxRecDepth 100000 in
set_option maxHeartbeats 8000000 in
theorem merkleTurned_one (A : Option Addr) (N c : Nat) (l : List (List (BitVec 8))) (i : Nat) (what : Int) (n : Nat) (y : BitVec 8) (w : World) (hN : N = l.length) (hv : BRows w (.slice A N c) l) (hc : N ≤ c) (hbig : bigB l = false) (hi : i < N) (hn : n ≤ 9223372036854775807) (hka : KAt w) :
    Calls Tryd.prog 20 #[.slice A N c, .int .i64 (i : Int), .int .i64 1, .int .i64 (n : Int), .int .u8 (B8 y)] w fun e w' => e = .returned (.bool true) ∧ Below w.heap.size w w' := by
  obtain ⟨hl, hm⟩ := big_false hbig
  have hil : i < l.length := by rw [← hN]; exact hi
  obtain ⟨r, hr⟩ : ∃ r, r = rootS l := ⟨_, rfl⟩
  obtain ⟨ps, hps⟩ : ∃ ps, ps = pathS l i := ⟨_, rfl⟩
  have hpl : ps.length ≤ 100 := by
    rw [hps, pathS_length N l i hil hN.symm]
    have := dirs_le 10 N i (by omega) (by omega)
    omega
  have HRF := Lib.hid (show ∀ w, BRows w (.slice A N c) l → KAt w → Calls Tryd.prog 44 #[.slice A N c] w fun e w' => e = .returned (.agg (rowB 32 r)) ∧ Below w.heap.size w w' from fun w hv hka => by
    rw [hr]; exact refRoot_any N l A c w hN hv hc (by omega) (by omega) hka)
  have HPF := Lib.hid (show ∀ w, BRows w (.slice A N c) l → KAt w → Calls Tryd.prog 47 #[.slice A N c, .int .i64 (i : Int)] w fun e w' => ∃ v, e = .returned v ∧ OwnN w' w.heap.size v ps ∧ Below w.heap.size w w' from fun w hv hka => by
    rw [hps]; exact refPath_any N l A c i w hN hv hc (by omega) (by omega) hi hka)
  have HBG := Lib.hid (show ∀ w, BRows w (.slice A N c) l → Calls Tryd.prog 22 #[.slice A N c] w fun e w' => e = .returned (.bool false) ∧ w = w' from fun w hv => by
    have := big_any _ l w hv
    rw [hbig] at this
    exact this)
  have hml : (l[i]'hil).length ≤ 99999000 := Nat.le_trans (flat_get l i hil) (by omega)
  obtain ⟨b, off, a1, c1, rfl, hbb, hcell, hrow⟩ := hv.at hil
  obtain ⟨m, hmm⟩ : ∃ m, m = l[i]'hil := ⟨_, rfl⟩
  rw [← hmm] at hcell hrow hml
  have HV := Lib.hid hv
  have HK := Lib.hid hka
  have HROW := Lib.hid hrow
  have HML := Lib.hid hml
  have HPL := Lib.hid hpl
  have HCE := Lib.hid (show ∀ w', Below w.heap.size w w' → w'.cell? ⟨b, off + i, none⟩ = some (.slice a1 m.length c1) from fun w' h => (h.cell (p := ⟨b, off + i, none⟩) hbb).trans hcell)
  have hN30 : (N : Int) ≤ 30 := by omega
  have hi0 : (0 : Int) ≤ (i : Int) := by omega
  have hi1 : (i : Int) < (N : Int) := by omega
  have hN0 : (0 : Int) < (N : Int) := by omega
  have hn0 : (0 : Int) ≤ (n : Int) := by omega
  have hn1 : (n : Int) ≤ 9223372036854775807 := by omega
  have HZ := Lib.hid (show (Tryd.prog.info? 28).map (·.size) = some (rowB 32 r).size by rw [size32, rowB_size])
  obtain ⟨P, hP⟩ : ∃ P, P = ps.length := ⟨_, rfl⟩
  have HP := Lib.hid hP

  clear hr hps hv hc hN hm hl hbig hka hmm hrow hcell hml hpl hil hP hn hbb
  go_enter Tryd.func20, Tryd.ntmps20
  go_wp2_with (first
    | (go_at_call 42; refine (alive15_any _).mono ?_; rintro e w1 ⟨rfl, hb1⟩; have HB1 := Lib.hid hb1; have HV1 := Lib.hid (HV.out.below hb1); clear hb1)
    | (go_at_call 22; refine (HBG.out _ HV1.out).mono ?_; rintro e w2 ⟨rfl, rfl⟩)
    | (go_at_call 44; refine (HRF.out _ HV1.out (HK.out.below HB1.out)).mono ?_; rintro e w2 ⟨rfl, hb2⟩; have HB2 := Lib.hid (below_keep HB1.out hb2); clear hb2)
    | (with_reducible refine wpList_alloc_row rfl 28 rfl 32 _ info32 ?_)
    | ((with_reducible show wpList _ _ _ (⟨_, .store 28 _ _, _, _, _, _⟩ :: _) _ _); refine wpList_store_rowTo rfl 28 _ _ rfl rfl w2.heap.size (rowB 32 r) rfl rfl 28 _ (heap_alloc_new _ _) HZ.out (by rw [row_size, rowB_size]) (rowB_oneCell _ _) ?_; obtain ⟨g, eg⟩ : ∃ g, g = w2.heap.size := ⟨_, rfl⟩; have HB3 := Lib.hid (show Below w.heap.size w ((w2.alloc (.cells (row 32 fun _ => .int .u8 0) 28)).setRow w2.heap.size (rowB 32 r)) from below_setRow (below_allocS HB2.out _) HB2.out.size _); have HG3 := Lib.hid (show ((w2.alloc (.cells (row 32 fun _ => .int .u8 0) 28)).setRow w2.heap.size (rowB 32 r)).heap[g]? = some (.cells (rowB 32 r) 28 (0, 0)) from by rw [eg]; exact heap_setRow_at (heap_alloc_new _ _)); generalize (w2.alloc (.cells (row 32 fun _ => .int .u8 0) 28)).setRow w2.heap.size (rowB 32 r) = w3 at *; rw [← eg]; clear eg)
    | (go_at_call 47; refine (HPF.out _ (HV.out.below HB3.out) (HK.out.below HB3.out)).mono ?_; rintro e w4 ⟨v4, rfl, hown4, hb4⟩; obtain ⟨a4, c4, e4, hc4⟩ := hown4.cap; subst e4; rw [← HP.out] at hown4 hc4 ⊢; have HO4 := Lib.hid hown4; have HC4 := Lib.hid hc4; have HB4 := Lib.hid (below_keep HB3.out hb4); have HG4 := Lib.hid ((hb4.block _ (Array.getElem?_eq_some_iff.1 HG3.out).1).trans HG3.out); have hcell4 := HCE.out _ HB4.out; have HS4 := Lib.hid hb4.size; have HB34 := Lib.hid hb4; clear hown4 hc4 hb4)
    | ((with_reducible show wpList _ _ _ (⟨some 49, _, _, _, _, _⟩ :: _) _ _); at_builtin; refine wpList_append_B rfl (.const (.slice none 0 0)) (.tmp 48) rfl w4.heap.size _ [] m rfl (World.ownsRow_nil _ _ _ _) (HROW.out.below HB4.out) (by have := HML.out; simp; omega) (Nat.le_refl _) ?_; intro v5 w5 hown5 hg5; rw [List.nil_append] at hown5; have hb5 : Below w4.heap.size w4 w5 := (Below.refl _ _).grown hg5 (Nat.le_refl _) (fun k hk => by cases hk); obtain ⟨a5, c5, e5⟩ := hown5.brow.shape; subst e5; have HO5 := Lib.hid hown5; have HB5 := Lib.hid (below_keep HB4.out hb5); have HG5 := Lib.hid ((hb5.block _ (Array.getElem?_eq_some_iff.1 HG4.out).1).trans HG4.out); have HN5 := Lib.hid (show OwnN w5 w3.heap.size (.slice a4 P c4) ps from World.ownsRow.kept0 HO4.out hg5); have HS5 := Lib.hid hb5.size; have HB45 := Lib.hid hb5; have HB35 := Lib.hid (below_keep HB34.out hb5); clear hown5 hg5 hb5 hcell4)
    | ((with_reducible show wpList _ _ _ (⟨some 87, _, _, _, _, _⟩ :: _) _ _); at_builtin; refine wpList_append_B rfl (.tmp 84) (.tmp 86) rfl w4.heap.size _ m [y] rfl (World.ownsRow.alloc HO5.out _) (brow_mk (c := 1) [y] (heap_alloc_new w5 _)) (by have := HML.out; simp; omega) (by have := HS5.out; simp; omega) ?_; intro v6 w6 hown6 hg6; have hb6 : Below w4.heap.size w4 w6 := (below_allocS HB45.out _).grown hg6 (below_allocS HB45.out _).size (fun k hk => (World.ownsRow.lt HO5.out k hk).1); obtain ⟨a6, c6, e6⟩ := hown6.brow.shape; obtain ⟨L6, hL6⟩ : ∃ L, L = (m ++ [y]).length := ⟨_, rfl⟩; rw [← hL6] at e6; subst e6; have HL6 := Lib.hid hL6; have HO6 := Lib.hid hown6.brow; have HB6 := Lib.hid (below_keep HB4.out hb6); have HG6 := Lib.hid ((hb6.block _ (Array.getElem?_eq_some_iff.1 HG4.out).1).trans HG4.out); have HN6 := Lib.hid (HO4.out.nrow.below hb6); clear hown6 hg6 hb6 hL6))

  obtain ⟨rb, hca, hcb⟩ := two_checks r (N : Int) (i : Int) a6 a4 L6 c6 P c4 (m ++ [y]) ps w6 HO6.out HL6.out (by have := HML.out; have := HL6.out; simp at this; omega) HN6.out HP.out HC4.out (by have := HP.out; have := HPL.out; omega) (HK.out.below HB6.out)
  have HCA := Lib.hid hca
  have HCB := Lib.hid hcb
  clear hca hcb
  have hrg := range_num HG6.out
  have hu := Tryd.underlying28
  have hif : (Tryd.prog.info? 28).map (·.size) = some (rowB 32 r).toList.length := by rw [size32]; simp [rowB_size]
  refine wp_region_plan (S := fun w' => Below w6.heap.size w6 w') [0, 1, 2, 3, 4, 6, 7, 8, 9, 10, 5, 11, 12, 13] [true, true, true, true, true, true, true, true, true, true, false, false, true, true] (by kernel_rfl) (by kernel_rfl) (Below.refl _ _).drew (fun hHeld => ?_)
  simp only [List.filterMap_cons, List.filterMap_nil, List.getElem?_toArray, List.getElem?_cons_zero, List.getElem?_cons_succ]
  refine seqH_take (yieldsIf_load_mid (by rfl) _ _ rfl _ _ rfl _ _ (fun w hw => hrg w hw) hu rfl hif) ?_
  try simp only [Act.put, List.setIfInBounds_toArray, List.set_cons_zero, List.set_cons_succ, rowB_back]
  refine seqH_take (v := ?_) (Or.inl ⟨by rfl, ?_⟩) ?_
  rotate_left
  · (intro w hSw; go_simp; first | done | with_reducible rfl)
  try simp only [Act.put, List.setIfInBounds_toArray, List.set_cons_zero, List.set_cons_succ]
  refine seqH_take (v := ?_) (Or.inl ⟨by rfl, ?_⟩) ?_
  rotate_left
  · (intro w hSw; go_simp; first | done | with_reducible rfl)
  try simp only [Act.put, List.setIfInBounds_toArray, List.set_cons_zero, List.set_cons_succ]
  refine seqH_take (v := ?_) (Or.inl ⟨by rfl, ?_⟩) ?_
  rotate_left
  · (intro w hSw; go_simp; first | done | with_reducible rfl)
  try simp only [Act.put, List.setIfInBounds_toArray, List.set_cons_zero, List.set_cons_succ]
  refine seqH_take (v := ?_) (Or.inl ⟨by rfl, ?_⟩) ?_
  rotate_left
  · (intro w hSw; go_simp; first | done | with_reducible rfl)
  try simp only [Act.put, List.setIfInBounds_toArray, List.set_cons_zero, List.set_cons_succ]
  refine seqH_take (yieldsIf_load_mid (by rfl) _ _ rfl _ _ rfl _ _ (fun w hw => hrg w hw) hu rfl hif) ?_
  try simp only [Act.put, List.setIfInBounds_toArray, List.set_cons_zero, List.set_cons_succ, rowB_back]
  refine seqH_take (v := ?_) (Or.inl ⟨by rfl, ?_⟩) ?_
  rotate_left
  · (intro w hSw; go_simp; first | done | with_reducible rfl)
  try simp only [Act.put, List.setIfInBounds_toArray, List.set_cons_zero, List.set_cons_succ]
  refine seqH_take (v := ?_) (Or.inl ⟨by rfl, ?_⟩) ?_
  rotate_left
  · (intro w hSw; go_simp; first | done | with_reducible rfl)
  try simp only [Act.put, List.setIfInBounds_toArray, List.set_cons_zero, List.set_cons_succ]
  refine seqH_take (v := ?_) (Or.inl ⟨by rfl, ?_⟩) ?_
  rotate_left
  · (intro w hSw; go_simp; first | done | with_reducible rfl)
  try simp only [Act.put, List.setIfInBounds_toArray, List.set_cons_zero, List.set_cons_succ]
  refine seqH_take (v := ?_) (Or.inl ⟨by rfl, ?_⟩) ?_
  rotate_left
  · (intro w hSw; go_simp; first | done | with_reducible rfl)
  try simp only [Act.put, List.setIfInBounds_toArray, List.set_cons_zero, List.set_cons_succ]
  refine seqH_go (fun K hK => ?_)
  rw [if_pos (by rfl)]
  go_simp
  refine (HCA.out _ hHeld).mono ?_; rintro e w8 ⟨rfl, hbc⟩
  try dsimp only
  refine hK.out _ _ (below_keep hHeld hbc) (fun hHeld2 => ?_)
  clear hK K hHeld
  have hHeld := hHeld2
  clear hHeld2
  try simp only [Act.put, List.setIfInBounds_toArray, List.set_cons_zero, List.set_cons_succ]
  refine seqH_go (fun K hK => ?_)
  rw [if_pos (by rfl)]
  go_simp
  refine (HCB.out _ hHeld).mono ?_; rintro e w9 ⟨rfl, hbc⟩
  try dsimp only
  refine hK.out _ _ (below_keep hHeld hbc) (fun hHeld2 => ?_)
  clear hK K hHeld
  have hHeld := hHeld2
  clear hHeld2
  try simp only [Act.put, List.setIfInBounds_toArray, List.set_cons_zero, List.set_cons_succ]
  refine seqH_take (v := ?_) (Or.inl ⟨by rfl, ?_⟩) ?_
  rotate_left
  · (intro w hSw; go_simp; first | done | with_reducible rfl)
  try simp only [Act.put, List.setIfInBounds_toArray, List.set_cons_zero, List.set_cons_succ]
  refine seqH_take (v := ?_) (Or.inl ⟨by rfl, ?_⟩) ?_
  rotate_left
  · (intro w hSw; go_simp; first | done | with_reducible rfl)
  try simp only [Act.put, List.setIfInBounds_toArray, List.set_cons_zero, List.set_cons_succ]
  refine seqH_nil (NoPanic.normal ?_)
  clear hrg hu hif
  go_wp2
  go_ret
  exact ⟨by simp, below_keep HB6.out hHeld⟩

set_option maxRecDepth 100000 in
set_option maxHeartbeats 8000000 in
theorem merkleTurned_four (A : Option Addr) (N c : Nat) (l : List (List (BitVec 8))) (i : Nat) (what : Int) (n : Nat) (y : BitVec 8) (w : World) (hN : N = l.length) (hv : BRows w (.slice A N c) l) (hc : N ≤ c) (hbig : bigB l = false) (hi : i < N) (hn : n ≤ 9223372036854775807) (hka : KAt w) :
    Calls Tryd.prog 20 #[.slice A N c, .int .i64 (i : Int), .int .i64 4, .int .i64 (n : Int), .int .u8 (B8 y)] w fun e w' => e = .returned (.bool true) ∧ Below w.heap.size w w' := by
  obtain ⟨hl, hm⟩ := big_false hbig
  have hil : i < l.length := by rw [← hN]; exact hi
  obtain ⟨r, hr⟩ : ∃ r, r = rootS l := ⟨_, rfl⟩
  obtain ⟨ps, hps⟩ : ∃ ps, ps = pathS l i := ⟨_, rfl⟩
  have hpl : ps.length ≤ 100 := by
    rw [hps, pathS_length N l i hil hN.symm]
    have := dirs_le 10 N i (by omega) (by omega)
    omega
  have HRF := Lib.hid (show ∀ w, BRows w (.slice A N c) l → KAt w → Calls Tryd.prog 44 #[.slice A N c] w fun e w' => e = .returned (.agg (rowB 32 r)) ∧ Below w.heap.size w w' from fun w hv hka => by
    rw [hr]; exact refRoot_any N l A c w hN hv hc (by omega) (by omega) hka)
  have HPF := Lib.hid (show ∀ w, BRows w (.slice A N c) l → KAt w → Calls Tryd.prog 47 #[.slice A N c, .int .i64 (i : Int)] w fun e w' => ∃ v, e = .returned v ∧ OwnN w' w.heap.size v ps ∧ Below w.heap.size w w' from fun w hv hka => by
    rw [hps]; exact refPath_any N l A c i w hN hv hc (by omega) (by omega) hi hka)
  have HBG := Lib.hid (show ∀ w, BRows w (.slice A N c) l → Calls Tryd.prog 22 #[.slice A N c] w fun e w' => e = .returned (.bool false) ∧ w = w' from fun w hv => by
    have := big_any _ l w hv
    rw [hbig] at this
    exact this)
  have hml : (l[i]'hil).length ≤ 99999000 := Nat.le_trans (flat_get l i hil) (by omega)
  obtain ⟨b, off, a1, c1, rfl, hbb, hcell, hrow⟩ := hv.at hil
  obtain ⟨m, hmm⟩ : ∃ m, m = l[i]'hil := ⟨_, rfl⟩
  rw [← hmm] at hcell hrow hml
  have HV := Lib.hid hv
  have HK := Lib.hid hka
  have HROW := Lib.hid hrow
  have HML := Lib.hid hml
  have HPL := Lib.hid hpl
  have HCE := Lib.hid (show ∀ w', Below w.heap.size w w' → w'.cell? ⟨b, off + i, none⟩ = some (.slice a1 m.length c1) from fun w' h => (h.cell (p := ⟨b, off + i, none⟩) hbb).trans hcell)
  have hN30 : (N : Int) ≤ 30 := by omega
  have hi0 : (0 : Int) ≤ (i : Int) := by omega
  have hi1 : (i : Int) < (N : Int) := by omega
  have hN0 : (0 : Int) < (N : Int) := by omega
  have hn0 : (0 : Int) ≤ (n : Int) := by omega
  have hn1 : (n : Int) ≤ 9223372036854775807 := by omega
  have HZ := Lib.hid (show (Tryd.prog.info? 28).map (·.size) = some (rowB 32 r).size by rw [size32, rowB_size])
  obtain ⟨P, hP⟩ : ∃ P, P = ps.length := ⟨_, rfl⟩
  have HP := Lib.hid hP

  clear hr hps hv hc hN hm hl hbig hka hmm hrow hcell hml hpl hil hP hn hbb
  go_enter Tryd.func20, Tryd.ntmps20
  go_wp2_with (first
    | (go_at_call 42; refine (alive15_any _).mono ?_; rintro e w1 ⟨rfl, hb1⟩; have HB1 := Lib.hid hb1; have HV1 := Lib.hid (HV.out.below hb1); clear hb1)
    | (go_at_call 22; refine (HBG.out _ HV1.out).mono ?_; rintro e w2 ⟨rfl, rfl⟩)
    | (go_at_call 44; refine (HRF.out _ HV1.out (HK.out.below HB1.out)).mono ?_; rintro e w2 ⟨rfl, hb2⟩; have HB2 := Lib.hid (below_keep HB1.out hb2); clear hb2)
    | (with_reducible refine wpList_alloc_row rfl 28 rfl 32 _ info32 ?_)
    | ((with_reducible show wpList _ _ _ (⟨_, .store 28 _ _, _, _, _, _⟩ :: _) _ _); refine wpList_store_rowTo rfl 28 _ _ rfl rfl w2.heap.size (rowB 32 r) rfl rfl 28 _ (heap_alloc_new _ _) HZ.out (by rw [row_size, rowB_size]) (rowB_oneCell _ _) ?_; obtain ⟨g, eg⟩ : ∃ g, g = w2.heap.size := ⟨_, rfl⟩; have HB3 := Lib.hid (show Below w.heap.size w ((w2.alloc (.cells (row 32 fun _ => .int .u8 0) 28)).setRow w2.heap.size (rowB 32 r)) from below_setRow (below_allocS HB2.out _) HB2.out.size _); have HG3 := Lib.hid (show ((w2.alloc (.cells (row 32 fun _ => .int .u8 0) 28)).setRow w2.heap.size (rowB 32 r)).heap[g]? = some (.cells (rowB 32 r) 28 (0, 0)) from by rw [eg]; exact heap_setRow_at (heap_alloc_new _ _)); generalize (w2.alloc (.cells (row 32 fun _ => .int .u8 0) 28)).setRow w2.heap.size (rowB 32 r) = w3 at *; rw [← eg]; clear eg)
    | (go_at_call 47; refine (HPF.out _ (HV.out.below HB3.out) (HK.out.below HB3.out)).mono ?_; rintro e w4 ⟨v4, rfl, hown4, hb4⟩; obtain ⟨a4, c4, e4, hc4⟩ := hown4.cap; subst e4; rw [← HP.out] at hown4 hc4 ⊢; have HO4 := Lib.hid hown4; have HC4 := Lib.hid hc4; have HB4 := Lib.hid (below_keep HB3.out hb4); have HG4 := Lib.hid ((hb4.block _ (Array.getElem?_eq_some_iff.1 HG3.out).1).trans HG3.out); have hcell4 := HCE.out _ HB4.out; have HS4 := Lib.hid hb4.size; have HB34 := Lib.hid hb4; clear hown4 hc4 hb4)
    | ((with_reducible show wpList _ _ _ (⟨some 49, _, _, _, _, _⟩ :: _) _ _); at_builtin; refine wpList_append_B rfl (.const (.slice none 0 0)) (.tmp 48) rfl w4.heap.size _ [] m rfl (World.ownsRow_nil _ _ _ _) (HROW.out.below HB4.out) (by have := HML.out; simp; omega) (Nat.le_refl _) ?_; intro v5 w5 hown5 hg5; rw [List.nil_append] at hown5; have hb5 : Below w4.heap.size w4 w5 := (Below.refl _ _).grown hg5 (Nat.le_refl _) (fun k hk => by cases hk); obtain ⟨a5, c5, e5⟩ := hown5.brow.shape; subst e5; have HO5 := Lib.hid hown5; have HB5 := Lib.hid (below_keep HB4.out hb5); have HG5 := Lib.hid ((hb5.block _ (Array.getElem?_eq_some_iff.1 HG4.out).1).trans HG4.out); have HN5 := Lib.hid (show OwnN w5 w3.heap.size (.slice a4 P c4) ps from World.ownsRow.kept0 HO4.out hg5); have HS5 := Lib.hid hb5.size; have HB45 := Lib.hid hb5; have HB35 := Lib.hid (below_keep HB34.out hb5); clear hown5 hg5 hb5 hcell4)
    | (refine wpList_buildTo rfl 28 #[(0, .tmp 104)] rfl _ rfl (rowB 32 (oneB y)) (built_oneB y) ?_)
    | (refine wpList_buildSliceTo rfl 34 28 1 _ rfl _ rfl _ rfl Tryd.underlying34 (rowB 32 (oneB y)) (by kernel_rfl) ?_)
    | ((with_reducible show wpList _ _ _ (⟨some 107, _, _, _, _, _⟩ :: _) _ _); at_builtin; refine wpList_append_N rfl (.tmp 103) (.tmp 106) rfl w3.heap.size _ ps [oneB y] rfl (World.ownsRow.alloc HN5.out _) (nrow_one (heap_alloc_new w5 _)) (by have := HPL.out; simp; omega) (by have := HS5.out; have := HS4.out; simp; omega) ?_; intro v6 w6 hown6 hg6; have hb6 : Below w3.heap.size w3 w6 := (below_allocS HB35.out _).grown hg6 (below_allocS HB35.out _).size (fun k hk => (World.ownsRow.lt HN5.out k hk).1); obtain ⟨a6, c6, e6, hc6⟩ := hown6.cap; obtain ⟨P6, hP6⟩ : ∃ L, L = (ps ++ [oneB y]).length := ⟨_, rfl⟩; rw [← hP6] at e6 hc6; subst e6; have HP6 := Lib.hid hP6; have HC6 := Lib.hid hc6; have HN6 := Lib.hid hown6.nrow; have HB6 := Lib.hid (below_keep HB3.out hb6); have HG6 := Lib.hid ((hb6.block _ (Array.getElem?_eq_some_iff.1 HG3.out).1).trans HG3.out); have HO6 := Lib.hid (show OwnB w6 w4.heap.size (.slice a5 m.length c5) m from World.ownsRow.kept (World.ownsRow.alloc HO5.out _) hg6 (by cases hk : (Value.slice a5 m.length c5).ownBlock with | none => exact .inl rfl | some k => exact .inr (fun e => by have h1 := (World.ownsRow.lt HO5.out k hk).1; have h2 := (World.ownsRow.lt HO4.out k e.symm).2; omega))); clear hown6 hg6 hb6 hP6 hc6))

  obtain ⟨rb, hca, hcb⟩ := two_checks r (N : Int) (i : Int) a5 a6 m.length c5 P6 c6 m (ps ++ [oneB y]) w6 HO6.out.brow rfl (by have := HML.out; omega) HN6.out HP6.out HC6.out (by have := HPL.out; have := HP6.out; simp at this; omega) (HK.out.below HB6.out)
  have HCA := Lib.hid hca
  have HCB := Lib.hid hcb
  clear hca hcb
  have hrg := range_num HG6.out
  have hu := Tryd.underlying28
  have hif : (Tryd.prog.info? 28).map (·.size) = some (rowB 32 r).toList.length := by rw [size32]; simp [rowB_size]
  refine wp_region_plan (S := fun w' => Below w6.heap.size w6 w') [0, 1, 2, 3, 4, 6, 7, 8, 9, 10, 5, 11, 12, 13] [true, true, true, true, true, true, true, true, true, true, false, false, true, true] (by kernel_rfl) (by kernel_rfl) (Below.refl _ _).drew (fun hHeld => ?_)
  simp only [List.filterMap_cons, List.filterMap_nil, List.getElem?_toArray, List.getElem?_cons_zero, List.getElem?_cons_succ]
  refine seqH_take (yieldsIf_load_mid (by rfl) _ _ rfl _ _ rfl _ _ (fun w hw => hrg w hw) hu rfl hif) ?_
  try simp only [Act.put, List.setIfInBounds_toArray, List.set_cons_zero, List.set_cons_succ, rowB_back]
  refine seqH_take (v := ?_) (Or.inl ⟨by rfl, ?_⟩) ?_
  rotate_left
  · (intro w hSw; go_simp; first | done | with_reducible rfl)
  try simp only [Act.put, List.setIfInBounds_toArray, List.set_cons_zero, List.set_cons_succ]
  refine seqH_take (v := ?_) (Or.inl ⟨by rfl, ?_⟩) ?_
  rotate_left
  · (intro w hSw; go_simp; first | done | with_reducible rfl)
  try simp only [Act.put, List.setIfInBounds_toArray, List.set_cons_zero, List.set_cons_succ]
  refine seqH_take (v := ?_) (Or.inl ⟨by rfl, ?_⟩) ?_
  rotate_left
  · (intro w hSw; go_simp; first | done | with_reducible rfl)
  try simp only [Act.put, List.setIfInBounds_toArray, List.set_cons_zero, List.set_cons_succ]
  refine seqH_take (v := ?_) (Or.inl ⟨by rfl, ?_⟩) ?_
  rotate_left
  · (intro w hSw; go_simp; first | done | with_reducible rfl)
  try simp only [Act.put, List.setIfInBounds_toArray, List.set_cons_zero, List.set_cons_succ]
  refine seqH_take (yieldsIf_load_mid (by rfl) _ _ rfl _ _ rfl _ _ (fun w hw => hrg w hw) hu rfl hif) ?_
  try simp only [Act.put, List.setIfInBounds_toArray, List.set_cons_zero, List.set_cons_succ, rowB_back]
  refine seqH_take (v := ?_) (Or.inl ⟨by rfl, ?_⟩) ?_
  rotate_left
  · (intro w hSw; go_simp; first | done | with_reducible rfl)
  try simp only [Act.put, List.setIfInBounds_toArray, List.set_cons_zero, List.set_cons_succ]
  refine seqH_take (v := ?_) (Or.inl ⟨by rfl, ?_⟩) ?_
  rotate_left
  · (intro w hSw; go_simp; first | done | with_reducible rfl)
  try simp only [Act.put, List.setIfInBounds_toArray, List.set_cons_zero, List.set_cons_succ]
  refine seqH_take (v := ?_) (Or.inl ⟨by rfl, ?_⟩) ?_
  rotate_left
  · (intro w hSw; go_simp; first | done | with_reducible rfl)
  try simp only [Act.put, List.setIfInBounds_toArray, List.set_cons_zero, List.set_cons_succ]
  refine seqH_take (v := ?_) (Or.inl ⟨by rfl, ?_⟩) ?_
  rotate_left
  · (intro w hSw; go_simp; first | done | with_reducible rfl)
  try simp only [Act.put, List.setIfInBounds_toArray, List.set_cons_zero, List.set_cons_succ]
  refine seqH_go (fun K hK => ?_)
  rw [if_pos (by rfl)]
  go_simp
  refine (HCA.out _ hHeld).mono ?_; rintro e w8 ⟨rfl, hbc⟩
  try dsimp only
  refine hK.out _ _ (below_keep hHeld hbc) (fun hHeld2 => ?_)
  clear hK K hHeld
  have hHeld := hHeld2
  clear hHeld2
  try simp only [Act.put, List.setIfInBounds_toArray, List.set_cons_zero, List.set_cons_succ]
  refine seqH_go (fun K hK => ?_)
  rw [if_pos (by rfl)]
  go_simp
  refine (HCB.out _ hHeld).mono ?_; rintro e w9 ⟨rfl, hbc⟩
  try dsimp only
  refine hK.out _ _ (below_keep hHeld hbc) (fun hHeld2 => ?_)
  clear hK K hHeld
  have hHeld := hHeld2
  clear hHeld2
  try simp only [Act.put, List.setIfInBounds_toArray, List.set_cons_zero, List.set_cons_succ]
  refine seqH_take (v := ?_) (Or.inl ⟨by rfl, ?_⟩) ?_
  rotate_left
  · (intro w hSw; go_simp; first | done | with_reducible rfl)
  try simp only [Act.put, List.setIfInBounds_toArray, List.set_cons_zero, List.set_cons_succ]
  refine seqH_take (v := ?_) (Or.inl ⟨by rfl, ?_⟩) ?_
  rotate_left
  · (intro w hSw; go_simp; first | done | with_reducible rfl)
  try simp only [Act.put, List.setIfInBounds_toArray, List.set_cons_zero, List.set_cons_succ]
  refine seqH_nil (NoPanic.normal ?_)
  clear hrg hu hif
  go_wp2
  go_ret
  exact ⟨by simp, below_keep HB6.out hHeld⟩

end Go.Proofs.YtnnllficjljjkaaDoor
