/-
  The walks of Extract, of both; of the document's own Expand.
-/
import Derived.Test.YtnnllficjljjkaaDoorDerive
import Derived.Test.YtnnllficjljjkaaDoorRefMac
import Derived.Test.YtnnllficjljjkaaDoorOwnN
namespace Go.Proofs.YtnnllficjljjkaaDoor
open Go.RowKit
set_option linter.unusedVariables false
set_option linter.unusedSimpArgs false

set_option maxRecDepth 100000 in
set_option maxHeartbeats 1000000 in
theorem extract_any (v vb : Value) (salt key : List (BitVec 8)) (w : World) (hv : BRow w v salt) (hvb : BRow w vb key) (hs : salt.length ≤ 1000000000) (hk : key.length ≤ 999999000) :
    Calls Tryd.prog 39 #[v, vb] w fun e w' => e = .returned (.agg (rowB 32 (macS salt key))) ∧ Below w.heap.size w w' := by
  obtain ⟨a, c, rfl⟩ := hv.shape
  obtain ⟨a2, c2, rfl⟩ := hvb.shape
  have HB1 := Lib.hid (show Below w.heap.size w (w.alloc (.cells (row 32 fun _ => .int .u8 0) 28)) from below_allocS (Below.refl _ _) _)
  have HR1 := Lib.hid (show (w.alloc (.cells (row 32 fun _ => .int .u8 0) 28)).heap[w.heap.size]? = some (.cells (row 32 fun _ => .int .u8 0) 28 (0, 0)) from heap_alloc_new _ _)
  have HV1 := Lib.hid (hv.below HB1.out)
  have HVB1 := Lib.hid (hvb.below HB1.out)
  have HS := Lib.hid hs
  have HK := Lib.hid hk
  clear hv hvb hs hk
  go_enter Tryd.func39, Tryd.ntmps39
  go_wp2_with (with_reducible refine wpList_alloc_row rfl 28 rfl 32 _ info32 ?_; generalize w.alloc (.cells (row 32 fun _ => .int .u8 0) 28) = w1 at *)
  refine (mac_any _ _ salt [key] _ (HV1.out.below (below_allocS (Below.refl _ _) _)) (brows_one (heap_alloc_new _ _) (HVB1.out.below (below_allocS (Below.refl _ _) _))) HS.out (by simp) (by simpa using HK.out)).mono ?_
  rintro e w2 ⟨rfl, hb2⟩
  rw [show ([key] : List (List (BitVec 8))).flatten = key from by simp]
  have HB2 := Lib.hid (show Below w1.heap.size w1 w2 from below_keep (below_allocS (Below.refl w1.heap.size w1) _) hb2)
  have HR2 := Lib.hid ((HB2.out.block _ (Array.getElem?_eq_some_iff.1 HR1.out).1).trans HR1.out)
  obtain ⟨h, hh⟩ : ∃ h, h = macS salt key := ⟨_, rfl⟩
  rw [← hh]
  have HHH := Lib.hid hh
  clear hh
  have HZ2 := Lib.hid (show (Tryd.prog.info? 28).map (·.size) = some (rowB 32 h).size by rw [size32, rowB_size])
  clear hb2
  go_wp2_with ((with_reducible show wpList _ _ _ (⟨_, .store 28 _ _, _, _, _, _⟩ :: _) _ _); refine wpList_store_rowTo rfl 28 _ _ rfl rfl w.heap.size (rowB 32 h) rfl rfl 28 _ HR2.out HZ2.out (by rw [row_size, rowB_size]) (rowB_oneCell _ _) ?_)
  refine bodyPost_ret (results_cell_row rfl _ _ w.heap.size 28 (rowB 32 h) (0, 0) _ rfl (heap_setRow_at HR2.out) Tryd.underlying28 rfl HZ2.out) rfl ?_
  exact ⟨by first | rfl | rw [HHH.out], below_setRow (below_keep HB1.out HB2.out) (Nat.le_refl _) _⟩

set_option maxRecDepth 100000 in
set_option maxHeartbeats 1000000 in
theorem refExtract_any (v vb : Value) (salt key : List (BitVec 8)) (w : World) (hv : BRow w v salt) (hvb : BRow w vb key) (hs : salt.length ≤ 1000000000) (hk : key.length ≤ 999999000) (hka : KAt w) :
    Calls Tryd.prog 40 #[v, vb] w fun e w' => e = .returned (.agg (rowB 32 (macS salt key))) ∧ Below w.heap.size w w' := by
  obtain ⟨a, c, rfl⟩ := hv.shape
  obtain ⟨a2, c2, rfl⟩ := hvb.shape
  have HB1 := Lib.hid (show Below w.heap.size w (w.alloc (.cells (row 32 fun _ => .int .u8 0) 28)) from below_allocS (Below.refl _ _) _)
  have HR1 := Lib.hid (show (w.alloc (.cells (row 32 fun _ => .int .u8 0) 28)).heap[w.heap.size]? = some (.cells (row 32 fun _ => .int .u8 0) 28 (0, 0)) from heap_alloc_new _ _)
  have HV1 := Lib.hid (hv.below HB1.out)
  have HVB1 := Lib.hid (hvb.below HB1.out)
  have HKA := Lib.hid (hka.below HB1.out)
  have HS := Lib.hid hs
  have HK := Lib.hid hk
  clear hv hvb hs hk hka
  go_enter Tryd.func40, Tryd.ntmps40
  go_wp2_with (with_reducible refine wpList_alloc_row rfl 28 rfl 32 _ info32 ?_; generalize w.alloc (.cells (row 32 fun _ => .int .u8 0) 28) = w1 at *)
  refine (refMac_any _ _ salt key _ HV1.out HVB1.out HS.out HK.out HKA.out).mono ?_
  rintro e w2 ⟨rfl, hb2⟩
  have HB2 := Lib.hid hb2
  have HR2 := Lib.hid ((HB2.out.block _ (Array.getElem?_eq_some_iff.1 HR1.out).1).trans HR1.out)
  obtain ⟨h, hh⟩ : ∃ h, h = macS salt key := ⟨_, rfl⟩
  rw [← hh]
  have HHH := Lib.hid hh
  clear hh
  have HZ2 := Lib.hid (show (Tryd.prog.info? 28).map (·.size) = some (rowB 32 h).size by rw [size32, rowB_size])
  clear hb2
  go_wp2_with ((with_reducible show wpList _ _ _ (⟨_, .store 28 _ _, _, _, _, _⟩ :: _) _ _); refine wpList_store_rowTo rfl 28 _ _ rfl rfl w.heap.size (rowB 32 h) rfl rfl 28 _ HR2.out HZ2.out (by rw [row_size, rowB_size]) (rowB_oneCell _ _) ?_)
  refine bodyPost_ret (results_cell_row rfl _ _ w.heap.size 28 (rowB 32 h) (0, 0) _ rfl (heap_setRow_at HR2.out) Tryd.underlying28 rfl HZ2.out) rfl ?_
  exact ⟨by first | rfl | rw [HHH.out], below_setRow (below_keep HB1.out HB2.out) (Nat.le_refl _) _⟩

/-- A slice literal of one byte. -/
theorem wp_build_b_to {o : Oper} {a : Act} {w : World} {K : Act → World → Prop} {Q : Exit → Act → World → Prop} (x : Operand) (ho : o.op = .buildSlice 25 1 #[(0, x)])
    (b : BitVec 8) (hx : a.eval x = .int .u8 (B8 b))
    (h : ∀ g w', BRow w' (.slice (some ⟨g, 0, none⟩) 1 1) [b] → g = w.heap.size → w.grownBy w' none → K (a.put o.dst (.slice (some ⟨g, 0, none⟩) 1 1)) w') : o.wp Tryd.prog a w K Q := by
  obtain ⟨i0, hi0, hz0, hz1, hz2⟩ := info_parts info_u8
  refine wp_buildSlice 25 5 1 #[(0, x)] ho #[.int .u8 (B8 b)] i0 _ Tryd.underlying25 hi0 hz0 (by rw [hz1]; decide) (by rw [hz1]; decide) ?_ (h _ _ (brow_mk (c := 1) [b] (heap_alloc_new w _)) rfl (grown_alloc (grown_refl _ _) _))
  rw [hz1]
  have e : (Array.map (fun (y : Nat × Operand) => (y.1, a.eval y.2)) #[(0, x)]).toList = [(0, Value.int .u8 (B8 b))] := by simp [hx]
  rw [e]
  have e1 : Array.range 1 = #[0] := rfl
  simp [Instr.fill, Value.cells, e1]

set_option maxRecDepth 100000 in
set_option maxHeartbeats 2000000 in
theorem refExpand_any (f : Nat → BitVec 8) (v : Value) (info : List (BitVec 8)) (n : Nat) (w : World) (hv : BRow w v info) (hi : info.length ≤ 1000000) (hn : n ≤ 8160) (hka : KAt w) :
    Calls Tryd.prog 41 #[.agg (rowB 32 f), v, .int .i64 (n : Int)] w fun e w' => (∃ a c, e = .returned (.slice a n c) ∧ BRow w' (.slice a n c) (expS ((List.range 32).map f) info n)) ∧ Below w.heap.size w w' := by
  have hn0 : (0 : Int) ≤ (n : Int) := by omega
  have hn1 : (n : Int) ≤ 8160 := by omega
  have HV := Lib.hid hv
  have HI := Lib.hid hi
  have HKA := Lib.hid hka
  obtain ⟨ai, ci, rfl⟩ := hv.shape
  obtain ⟨key, hkey⟩ : ∃ key, key = (List.range 32).map f := ⟨_, rfl⟩
  have HKEY := Lib.hid hkey
  have HKL := Lib.hid (show key.length ≤ 1000000000 by rw [hkey]; simp)
  rw [← hkey]
  clear hv hi hkey hka
  go_enter Tryd.func41, Tryd.ntmps41
  go_wp2
  have HB := Lib.hid (show Below w.heap.size w (w.alloc (.cells (rowB 32 f) 28)) from below_allocS (Below.refl _ _) _)
  have HG := Lib.hid (show (w.alloc (.cells (rowB 32 f) 28)).heap[w.heap.size]? = some (.cells (rowB 32 f) 28 (0, 0)) from heap_alloc_new _ _)
  have HL := Lib.hid (show BRow (w.alloc (.cells (rowB 32 f) 28)) (.slice none 0 0) (expT key info 0) from ⟨none, 0, rfl, fun _ => rfl, fun h => absurd h (by simp [expT])⟩)
  have HO := Lib.hid (show OwnB (w.alloc (.cells (rowB 32 f) 28)) (w.heap.size + 1) (.slice none 0 0) (expO key info 0) from World.ownsRow_nil _ _ _ _)
  generalize w.alloc (.cells (rowB 32 f) 28) = W at *
  go_loopw [7, 8, 9] (fun o t i wr => ∃ k : Nat, 32 * k < n + 32 ∧ i = .int .i64 ((k : Int) + 1) ∧ OwnB wr (w.heap.size + 1) o (expO key info k) ∧ BRow wr t (expT key info k) ∧ wr.heap[w.heap.size]? = some (.cells (rowB 32 f) 28 (0, 0)) ∧ Below w.heap.size w wr) (fun _ _ i _ => 300 - (intOf i).toNat)
  case atStart => exact ⟨0, by omega, rfl, HO.out, HL.out, HG.out, HB.out⟩
  case round =>
    clear HB HG HL HO
    obtain ⟨k, hk, rfl, ho, ht, hg, hb⟩ := hrel
    have HO := Lib.hid ho
    have HT := Lib.hid ht
    have HG := Lib.hid hg
    have HB := Lib.hid hb
    obtain ⟨ao, co, eo, hco⟩ := ho.cap
    rw [expO_length] at eo hco
    subst eo
    obtain ⟨at_, ct, et⟩ := ht.shape
    subst et
    have hlw := (Array.getElem?_eq_some_iff.1 hg).1
    clear ho ht hg hb
    by_cases hlt : 32 * k < n
    · have hk0 : (0 : Int) ≤ (k : Int) := by omega
      have hk1 : (k : Int) < 255 := by omega
      have hlt1 : ((32 * k : Nat) : Int) < (n : Int) := by omega
      go_wp2_with (first
        | (at_builtin; refine wpList_append_B rfl (.const (.slice none 0 0)) (.tmp 18) rfl wr.heap.size _ [] (expT key info k) rfl (World.ownsRow_nil _ _ _ _) HT.out (by have := expT_length key info k; simp; omega) (Nat.le_refl _) ?_; intro v1 w1 hown1 hg1; rw [List.nil_append] at hown1; have HO1 := Lib.hid hown1; have HB1 := Lib.hid (show Below wr.heap.size wr w1 from (Below.refl _ _).grown hg1 (Nat.le_refl _) (fun k hk => by cases hk)); clear hown1 hg1)
        | (at_builtin; refine wpList_append_B rfl (.tmp 19) (.tmp 20) rfl wr.heap.size _ (expT key info k) info rfl HO1.out (HV.out.below (below_keep HB.out HB1.out)) (by have := expT_length key info k; have := HI.out; omega) HB1.out.size ?_; intro v2 w2 hown2 hg2; have HO2 := Lib.hid hown2; have HB2 := Lib.hid (HB1.out.grown hg2 HB1.out.size (fun b hb => (World.ownsRow.lt HO1.out b hb).1)); clear hown2 hg2))
      have hb1 : Below w.heap.size w w2 := below_keep HB.out HB2.out
      have hand : bits .and .i64 ((k : Int) + 1) 255 = (k : Int) + 1 := by
        have := i64_and255 (k + 1) (by omega)
        rw [Nat.mod_eq_of_lt (by omega)] at this
        simpa using this
      have hw8 : IntKind.u8.wrap ((k : Int) + 1) = B8 (BitVec.ofNat 8 (k + 1)) := by have := B8_of' (k + 1); simpa using this
      have HET := Lib.hid (show expT key info (k + 1) = (List.range 32).map (macS key (expT key info k ++ info ++ [BitVec.ofNat 8 (k + 1)])) from rfl)
      have HEO := Lib.hid (show expO key info (k + 1) = expO key info k ++ expT key info (k + 1) from rfl)
      have HLE := Lib.hid (show (expT key info k ++ info ++ [BitVec.ofNat 8 (k + 1)]).length ≤ 999999000 from by have := expT_length key info k; have := HI.out; simp; omega)
      have hkr : ∀ w', Below wr.heap.size wr w' → BRow w' (.slice (some ⟨w.heap.size, 0, none⟩) 32 32) key := fun w' hb => by
        rw [HKEY.out]
        exact brow_num ((hb.block _ hlw).trans HG.out)
      have HKR := Lib.hid hkr
      obtain ⟨h, hh⟩ : ∃ h, h = macS key (expT key info k ++ info ++ [BitVec.ofNat 8 (k + 1)]) := ⟨_, rfl⟩
      rw [← hh] at HET
      have HHH := Lib.hid hh
      obtain ⟨bk, hbk⟩ : ∃ b, b = BitVec.ofNat 8 (k + 1) := ⟨_, rfl⟩
      rw [← hbk] at hw8 HHH HLE
      obtain ⟨mk, hmk⟩ : ∃ m, m = expT key info k ++ info := ⟨_, rfl⟩
      rw [← hmk] at HHH HLE HO2
      clear hh hbk hkr
      refine Code.wp_mono (Q := fun e a' w' => e = Exit.normal ∧ ∃ (u22 u23 u24 u25 u26 u27 u28 u29 : Value) (g : Nat), a' = { tmps := #[.agg (rowB 32 f), .slice ai info.length ci, .int .i64 (n : Int), .pointer (some ⟨w.heap.size, 0, none⟩), undef, undef, .slice none 0 0, .slice ao (32 * k) co, .slice at_ (expT key info k).length ct, .int .i64 ((k : Int) + 1), v2, .pointer (some ⟨g, 0, none⟩), .slice ao (32 * k) co, .int .i64 (32 * (k : Int)), .int .i64 (n : Int), .bool true, u16, u17, .slice at_ (expT key info k).length ct, v1, .slice ai info.length ci, v2, u22, u23, u24, u25, u26, u27, u28, u29, u30, u31, u32, u33, u34, undef, undef, undef, undef], defers := [] } ∧ w'.heap[g]? = some (.cells (rowB 32 h) 28 (0, 0)) ∧ wr.heap.size ≤ g ∧ Below wr.heap.size wr w') ?imp ?tree
      case tree =>
        have hown2 : OwnB w2.drew wr.heap.size v2 mk := World.ownsRow.kept0 HO2.out (grown_drew (grown_refl _ _))
        have hsd : w2.drew.heap.size = w2.heap.size := rfl
        refine wp_region_tree (S := fun w' => Below wr.heap.size wr w') 10 (by kernel_rfl) (by kernel_rfl) (HB2.out).drew (fun hHeld => ?_)
        refine wpAnyH_take (i := 0) (v := ?_) rfl (by kernel_rfl) (by kernel_rfl) (by kernel_rfl) (fun _ _ _ h => h) (Or.inl ⟨by rfl, ?_⟩) hHeld ?_
        rotate_left
        · (intro w hSw; go_simp; first | done | with_reducible rfl)
        try simp only [Act.put, List.getElem_toArray, List.getElem_cons_zero, List.getElem_cons_succ, List.setIfInBounds_toArray, List.set_cons_zero, List.set_cons_succ]
        refine wpAnyH_take (i := 1) (v := ?_) rfl (by kernel_rfl) (by kernel_rfl) (by kernel_rfl) (fun _ _ _ h => h) (Or.inl ⟨by rfl, ?_⟩) hHeld ?_
        rotate_left
        · (intro w hSw; go_simp; first | done | with_reducible rfl)
        try simp only [Act.put, List.getElem_toArray, List.getElem_cons_zero, List.getElem_cons_succ, List.setIfInBounds_toArray, List.set_cons_zero, List.set_cons_succ]
        refine wpAnyH_take (i := 2) (v := ?_) rfl (by kernel_rfl) (by kernel_rfl) (by kernel_rfl) (fun _ _ _ h => h) (Or.inl ⟨by rfl, ?_⟩) hHeld ?_
        rotate_left
        · (intro w hSw; go_simp; first | done | with_reducible rfl)
        try simp only [Act.put, List.getElem_toArray, List.getElem_cons_zero, List.getElem_cons_succ, List.setIfInBounds_toArray, List.set_cons_zero, List.set_cons_succ]
        refine wpAnyH_take (i := 3) (v := ?_) rfl (by kernel_rfl) (by kernel_rfl) (by kernel_rfl) (fun _ _ _ h => h) (Or.inl ⟨by rfl, ?_⟩) hHeld ?_
        rotate_left
        · (intro w hSw; go_simp; first | done | with_reducible rfl)
        try simp only [Act.put, List.getElem_toArray, List.getElem_cons_zero, List.getElem_cons_succ, List.setIfInBounds_toArray, List.set_cons_zero, List.set_cons_succ]
        refine wpAnyH_take (i := 4) (v := ?_) rfl (by kernel_rfl) (by kernel_rfl) (by kernel_rfl) (fun _ _ _ h => h) (Or.inl ⟨by rfl, ?_⟩) hHeld ?_
        rotate_left
        · (intro w hSw; go_simp; first | done | with_reducible rfl)
        try simp only [Act.put, List.getElem_toArray, List.getElem_cons_zero, List.getElem_cons_succ, List.setIfInBounds_toArray, List.set_cons_zero, List.set_cons_succ]
        refine wpAnyH_ready (rs := [5, 8]) (by kernel_rfl) (by simp) ((AllReadyH.cons rfl (fun K hK => ?_) (AllReadyH.cons rfl (fun K hK => ?_) AllReadyH.nil)))
        · rw [if_pos (by rfl)]
          refine wp_build_b_to (.tmp 26) rfl bk rfl ?_; intro g5 w5 h5 e5 hg5; clear e5
          replace hown2 : OwnB w5 wr.heap.size v2 mk := World.ownsRow.kept0 hown2 hg5
          refine hK.out _ _ (hHeld.grown hg5 hHeld.size (fun k hk => by cases hk)) (fun hHeld2 => ?_)
          clear hK K hHeld
          have hHeld := hHeld2
          clear hHeld2
          try simp only [Act.put, List.getElem_toArray, List.getElem_cons_zero, List.getElem_cons_succ, List.setIfInBounds_toArray, List.set_cons_zero, List.set_cons_succ]
          refine wpAnyH_ready (rs := [6, 8]) (by kernel_rfl) (by simp) ((AllReadyH.cons rfl (fun K hK => ?_) (AllReadyH.cons rfl (fun K hK => ?_) AllReadyH.nil)))
          · rw [if_pos (by rfl)]
            refine wp_append_B (.tmp 23) (.tmp 27) rfl wr.heap.size v2 mk [bk] rfl hown2 h5 (by have := HLE.out; simp at this ⊢; omega) hHeld.size ?_; intro v6 w6 hown6 hg6
            refine hK.out _ _ (hHeld.grown hg6 hHeld.size (fun k hk => (World.ownsRow.lt hown2 k hk).1)) (fun hHeld2 => ?_)
            clear hK K hHeld
            have hHeld := hHeld2
            clear hHeld2
            try simp only [Act.put, List.getElem_toArray, List.getElem_cons_zero, List.getElem_cons_succ, List.setIfInBounds_toArray, List.set_cons_zero, List.set_cons_succ]
            refine wpAnyH_ready (rs := [7, 8]) (by kernel_rfl) (by simp) ((AllReadyH.cons rfl (fun K hK => ?_) (AllReadyH.cons rfl (fun K hK => ?_) AllReadyH.nil)))
            · rw [if_pos (by rfl)]
              go_simp; refine (refMac_any _ _ key (mk ++ [bk]) _ (HKR.out _ hHeld) hown6.brow HKL.out HLE.out (HKA.out.below (below_keep HB.out hHeld))).mono ?_; rintro e w7 ⟨rfl, hbc⟩; dsimp only; rw [← HHH.out]
              refine hK.out _ _ (below_keep hHeld hbc) (fun hHeld2 => ?_)
              clear hK K hHeld
              have hHeld := hHeld2
              clear hHeld2
              try simp only [Act.put, List.getElem_toArray, List.getElem_cons_zero, List.getElem_cons_succ, List.setIfInBounds_toArray, List.set_cons_zero, List.set_cons_succ]
              refine wpAnyH_ready (rs := [8]) (by kernel_rfl) (by simp) ((AllReadyH.cons rfl (fun K hK => ?_) AllReadyH.nil))
              rw [if_pos (by rfl)]
              refine wp_alloc_to 28 rfl 32 _ info32 ?_; intro g8 w8 h8 e8 hg8; have hge8 : wr.heap.size ≤ g8 := by have := hHeld.size; omega
              refine hK.out _ _ (hHeld.grown hg8 hHeld.size (fun k hk => by cases hk)) (fun hHeld2 => ?_)
              clear hK K hHeld
              have hHeld := hHeld2
              clear hHeld2
              try simp only [Act.put, List.getElem_toArray, List.getElem_cons_zero, List.getElem_cons_succ, List.setIfInBounds_toArray, List.set_cons_zero, List.set_cons_succ]
              clear e8
              refine wpAnyH_ready (rs := [9]) (by kernel_rfl) (by simp) ((AllReadyH.cons rfl (fun K hK => ?_) AllReadyH.nil))
              rw [if_pos (by rfl)]
              refine wp_store_to (.tmp 11) (.tmp 29) rfl g8 h rfl rfl 28 _ h8 ?_; intro w9 h9 hg9
              refine hK.out _ _ (hHeld.grown hg9 hHeld.size (fun k hk => by cases hk; exact hge8)) (fun hHeld2 => ?_)
              clear hK K hHeld
              have hHeld := hHeld2
              clear hHeld2
              try simp only [Act.put, List.getElem_toArray, List.getElem_cons_zero, List.getElem_cons_succ, List.setIfInBounds_toArray, List.set_cons_zero, List.set_cons_succ]
              refine wpAnyH_done (by kernel_rfl) (NoPanic.normal ?_) _
              exact ⟨rfl, _, _, _, _, _, _, _, _, g8, rfl, h9, hge8, hHeld⟩
            · rw [if_pos (by rfl)]
              refine wp_alloc_to 28 rfl 32 _ info32 ?_; intro g8 w8 h8 e8 hg8; have hge8 : wr.heap.size ≤ g8 := by have := hHeld.size; omega
              replace hown6 : OwnB w8 wr.heap.size v6 (mk ++ [bk]) := World.ownsRow.kept0 hown6 hg8
              refine hK.out _ _ (hHeld.grown hg8 hHeld.size (fun k hk => by cases hk)) (fun hHeld2 => ?_)
              clear hK K hHeld
              have hHeld := hHeld2
              clear hHeld2
              try simp only [Act.put, List.getElem_toArray, List.getElem_cons_zero, List.getElem_cons_succ, List.setIfInBounds_toArray, List.set_cons_zero, List.set_cons_succ]
              clear e8
              refine wpAnyH_ready (rs := [7]) (by kernel_rfl) (by simp) ((AllReadyH.cons rfl (fun K hK => ?_) AllReadyH.nil))
              rw [if_pos (by rfl)]
              go_simp; refine (refMac_any _ _ key (mk ++ [bk]) _ (HKR.out _ hHeld) hown6.brow HKL.out HLE.out (HKA.out.below (below_keep HB.out hHeld))).mono ?_; rintro e w7 ⟨rfl, hbc⟩; dsimp only; rw [← HHH.out]
              replace h8 := keepCell (b := none) h8 (grown_of_below hbc) nofun
              refine hK.out _ _ (below_keep hHeld hbc) (fun hHeld2 => ?_)
              clear hK K hHeld
              have hHeld := hHeld2
              clear hHeld2
              try simp only [Act.put, List.getElem_toArray, List.getElem_cons_zero, List.getElem_cons_succ, List.setIfInBounds_toArray, List.set_cons_zero, List.set_cons_succ]
              refine wpAnyH_ready (rs := [9]) (by kernel_rfl) (by simp) ((AllReadyH.cons rfl (fun K hK => ?_) AllReadyH.nil))
              rw [if_pos (by rfl)]
              refine wp_store_to (.tmp 11) (.tmp 29) rfl g8 h rfl rfl 28 _ h8 ?_; intro w9 h9 hg9
              refine hK.out _ _ (hHeld.grown hg9 hHeld.size (fun k hk => by cases hk; exact hge8)) (fun hHeld2 => ?_)
              clear hK K hHeld
              have hHeld := hHeld2
              clear hHeld2
              try simp only [Act.put, List.getElem_toArray, List.getElem_cons_zero, List.getElem_cons_succ, List.setIfInBounds_toArray, List.set_cons_zero, List.set_cons_succ]
              refine wpAnyH_done (by kernel_rfl) (NoPanic.normal ?_) _
              exact ⟨rfl, _, _, _, _, _, _, _, _, g8, rfl, h9, hge8, hHeld⟩
          · rw [if_pos (by rfl)]
            refine wp_alloc_to 28 rfl 32 _ info32 ?_; intro g8 w8 h8 e8 hg8; have hge8 : wr.heap.size ≤ g8 := by have := hHeld.size; omega
            have d86 : some g8 ≠ v2.ownBlock := fun e => absurd (World.ownsRow.lt hown2 _ e.symm).2 (by omega); replace hown2 : OwnB w8 wr.heap.size v2 mk := World.ownsRow.kept0 hown2 hg8
            replace h5 := h5.below ((Below.refl _ _).grown hg8 (Nat.le_refl _) (fun k hk => by cases hk))
            refine hK.out _ _ (hHeld.grown hg8 hHeld.size (fun k hk => by cases hk)) (fun hHeld2 => ?_)
            clear hK K hHeld
            have hHeld := hHeld2
            clear hHeld2
            try simp only [Act.put, List.getElem_toArray, List.getElem_cons_zero, List.getElem_cons_succ, List.setIfInBounds_toArray, List.set_cons_zero, List.set_cons_succ]
            clear e8
            refine wpAnyH_ready (rs := [6]) (by kernel_rfl) (by simp) ((AllReadyH.cons rfl (fun K hK => ?_) AllReadyH.nil))
            rw [if_pos (by rfl)]
            refine wp_append_B (.tmp 23) (.tmp 27) rfl wr.heap.size v2 mk [bk] rfl hown2 h5 (by have := HLE.out; simp at this ⊢; omega) hHeld.size ?_; intro v6 w6 hown6 hg6
            replace h8 := keepCell h8 hg6 d86
            refine hK.out _ _ (hHeld.grown hg6 hHeld.size (fun k hk => (World.ownsRow.lt hown2 k hk).1)) (fun hHeld2 => ?_)
            clear hK K hHeld
            have hHeld := hHeld2
            clear hHeld2
            try simp only [Act.put, List.getElem_toArray, List.getElem_cons_zero, List.getElem_cons_succ, List.setIfInBounds_toArray, List.set_cons_zero, List.set_cons_succ]
            refine wpAnyH_ready (rs := [7]) (by kernel_rfl) (by simp) ((AllReadyH.cons rfl (fun K hK => ?_) AllReadyH.nil))
            rw [if_pos (by rfl)]
            go_simp; refine (refMac_any _ _ key (mk ++ [bk]) _ (HKR.out _ hHeld) hown6.brow HKL.out HLE.out (HKA.out.below (below_keep HB.out hHeld))).mono ?_; rintro e w7 ⟨rfl, hbc⟩; dsimp only; rw [← HHH.out]
            replace h8 := keepCell (b := none) h8 (grown_of_below hbc) nofun
            refine hK.out _ _ (below_keep hHeld hbc) (fun hHeld2 => ?_)
            clear hK K hHeld
            have hHeld := hHeld2
            clear hHeld2
            try simp only [Act.put, List.getElem_toArray, List.getElem_cons_zero, List.getElem_cons_succ, List.setIfInBounds_toArray, List.set_cons_zero, List.set_cons_succ]
            refine wpAnyH_ready (rs := [9]) (by kernel_rfl) (by simp) ((AllReadyH.cons rfl (fun K hK => ?_) AllReadyH.nil))
            rw [if_pos (by rfl)]
            refine wp_store_to (.tmp 11) (.tmp 29) rfl g8 h rfl rfl 28 _ h8 ?_; intro w9 h9 hg9
            refine hK.out _ _ (hHeld.grown hg9 hHeld.size (fun k hk => by cases hk; exact hge8)) (fun hHeld2 => ?_)
            clear hK K hHeld
            have hHeld := hHeld2
            clear hHeld2
            try simp only [Act.put, List.getElem_toArray, List.getElem_cons_zero, List.getElem_cons_succ, List.setIfInBounds_toArray, List.set_cons_zero, List.set_cons_succ]
            refine wpAnyH_done (by kernel_rfl) (NoPanic.normal ?_) _
            exact ⟨rfl, _, _, _, _, _, _, _, _, g8, rfl, h9, hge8, hHeld⟩
        · rw [if_pos (by rfl)]
          refine wp_alloc_to 28 rfl 32 _ info32 ?_; intro g8 w8 h8 e8 hg8; have hge8 : wr.heap.size ≤ g8 := by have := hHeld.size; omega
          have d86 : some g8 ≠ v2.ownBlock := fun e => absurd (World.ownsRow.lt hown2 _ e.symm).2 (by omega); replace hown2 : OwnB w8 wr.heap.size v2 mk := World.ownsRow.kept0 hown2 hg8
          refine hK.out _ _ (hHeld.grown hg8 hHeld.size (fun k hk => by cases hk)) (fun hHeld2 => ?_)
          clear hK K hHeld
          have hHeld := hHeld2
          clear hHeld2
          try simp only [Act.put, List.getElem_toArray, List.getElem_cons_zero, List.getElem_cons_succ, List.setIfInBounds_toArray, List.set_cons_zero, List.set_cons_succ]
          clear e8
          refine wpAnyH_ready (rs := [5]) (by kernel_rfl) (by simp) ((AllReadyH.cons rfl (fun K hK => ?_) AllReadyH.nil))
          rw [if_pos (by rfl)]
          refine wp_build_b_to (.tmp 26) rfl bk rfl ?_; intro g5 w5 h5 e5 hg5; clear e5
          replace hown2 : OwnB w5 wr.heap.size v2 mk := World.ownsRow.kept0 hown2 hg5
          replace h8 := keepCell h8 hg5 nofun
          refine hK.out _ _ (hHeld.grown hg5 hHeld.size (fun k hk => by cases hk)) (fun hHeld2 => ?_)
          clear hK K hHeld
          have hHeld := hHeld2
          clear hHeld2
          try simp only [Act.put, List.getElem_toArray, List.getElem_cons_zero, List.getElem_cons_succ, List.setIfInBounds_toArray, List.set_cons_zero, List.set_cons_succ]
          refine wpAnyH_ready (rs := [6]) (by kernel_rfl) (by simp) ((AllReadyH.cons rfl (fun K hK => ?_) AllReadyH.nil))
          rw [if_pos (by rfl)]
          refine wp_append_B (.tmp 23) (.tmp 27) rfl wr.heap.size v2 mk [bk] rfl hown2 h5 (by have := HLE.out; simp at this ⊢; omega) hHeld.size ?_; intro v6 w6 hown6 hg6
          replace h8 := keepCell h8 hg6 d86
          refine hK.out _ _ (hHeld.grown hg6 hHeld.size (fun k hk => (World.ownsRow.lt hown2 k hk).1)) (fun hHeld2 => ?_)
          clear hK K hHeld
          have hHeld := hHeld2
          clear hHeld2
          try simp only [Act.put, List.getElem_toArray, List.getElem_cons_zero, List.getElem_cons_succ, List.setIfInBounds_toArray, List.set_cons_zero, List.set_cons_succ]
          refine wpAnyH_ready (rs := [7]) (by kernel_rfl) (by simp) ((AllReadyH.cons rfl (fun K hK => ?_) AllReadyH.nil))
          rw [if_pos (by rfl)]
          go_simp; refine (refMac_any _ _ key (mk ++ [bk]) _ (HKR.out _ hHeld) hown6.brow HKL.out HLE.out (HKA.out.below (below_keep HB.out hHeld))).mono ?_; rintro e w7 ⟨rfl, hbc⟩; dsimp only; rw [← HHH.out]
          replace h8 := keepCell (b := none) h8 (grown_of_below hbc) nofun
          refine hK.out _ _ (below_keep hHeld hbc) (fun hHeld2 => ?_)
          clear hK K hHeld
          have hHeld := hHeld2
          clear hHeld2
          try simp only [Act.put, List.getElem_toArray, List.getElem_cons_zero, List.getElem_cons_succ, List.setIfInBounds_toArray, List.set_cons_zero, List.set_cons_succ]
          refine wpAnyH_ready (rs := [9]) (by kernel_rfl) (by simp) ((AllReadyH.cons rfl (fun K hK => ?_) AllReadyH.nil))
          rw [if_pos (by rfl)]
          refine wp_store_to (.tmp 11) (.tmp 29) rfl g8 h rfl rfl 28 _ h8 ?_; intro w9 h9 hg9
          refine hK.out _ _ (hHeld.grown hg9 hHeld.size (fun k hk => by cases hk; exact hge8)) (fun hHeld2 => ?_)
          clear hK K hHeld
          have hHeld := hHeld2
          clear hHeld2
          try simp only [Act.put, List.getElem_toArray, List.getElem_cons_zero, List.getElem_cons_succ, List.setIfInBounds_toArray, List.set_cons_zero, List.set_cons_succ]
          refine wpAnyH_done (by kernel_rfl) (NoPanic.normal ?_) _
          exact ⟨rfl, _, _, _, _, _, _, _, _, g8, rfl, h9, hge8, hHeld⟩
      case imp =>
        rintro e a' w9 ⟨rfl, x22, x23, x24, x25, x26, x27, x28, x29, g, rfl, hg, hge, hb⟩
        have HGE := Lib.hid hge
        have HB9 := Lib.hid hb
        have HO9 := Lib.hid (World.ownsRow.kept0 HO.out (grown_of_below (r := none) hb))
        have HT9 := Lib.hid (show BRow w9 (.slice (some ⟨g, 0, none⟩) 32 32) (expT key info (k + 1)) from by rw [HET.out]; exact brow_num hg)
        clear hand hw8 hb1 hg hge hb HHH HLE HO2 HB2 hmk HET HKR
        go_wp2_with (first
          | (at_builtin; refine wpList_append_B rfl (.const (.slice none 0 0)) (.tmp 30) rfl w9.heap.size _ [] (expT key info (k + 1)) rfl (World.ownsRow_nil _ _ _ _) HT9.out (by have := expT_length key info (k + 1); simp; omega) (Nat.le_refl _) ?_; intro v3 w10 hown3 hg3; rw [List.nil_append] at hown3; have hg3 : w9.grownBy w10 none := hg3; have HOT := Lib.hid hown3; have HB10 := Lib.hid (HB9.out.grown hg3 HB9.out.size (fun k hk => by cases hk)); have HO10 := Lib.hid (World.ownsRow.kept0 HO9.out hg3); clear hown3 hg3)
          | (at_builtin; refine wpList_append_B rfl (.tmp 32) (.tmp 33) rfl (w.heap.size + 1) _ (expO key info k) (expT key info (k + 1)) rfl HO10.out HOT.out.brow (by rw [expO_length, expT_length' _ _ (by omega)]; omega) (by have := HB.out.size; have := HB10.out.size; omega) ?_; intro v4 w11 hown4 hg4; rw [← HEO.out] at hown4; have HO11 := Lib.hid hown4; have HG11 := Lib.hid hg4; clear hown4 hg4))
        have hne : ∀ b, (Value.slice ao (32 * k) co).ownBlock = some b → w.heap.size + 1 ≤ b ∧ b < wr.heap.size := fun b hb => World.ownsRow.lt HO.out b hb
        have hb11 : Below w.heap.size w w11 := (below_keep HB.out HB10.out).grown HG11.out (below_keep HB.out HB10.out).size (fun b hb => by have := (hne b hb).1; omega)
        have hgk : w11.heap[w.heap.size]? = some (.cells (rowB 32 f) 28 (0, 0)) := (HG11.out.block _ (by have := HB10.out.size; omega) (by intro e; have := (hne _ e.symm).1; omega)).trans ((HB10.out.block _ hlw).trans HG.out)
        have hlast : OwnB w11 w9.heap.size v3 (expT key info (k + 1)) := by
          refine World.ownsRow.kept HOT.out HG11.out ?_
          cases hv : v3.ownBlock with
          | none => exact .inl rfl
          | some b =>
            refine .inr fun e => ?_
            have h1 := (World.ownsRow.lt HOT.out b hv).1
            have h2 := (hne b e.symm).2
            have := HB9.out.size
            omega
        have HLAST := Lib.hid hlast
        clear hlast hne
        go_roundw
        case rel => exact ⟨k + 1, by omega, by go_num, HO11.out, HLAST.out.brow, hgk, hb11⟩
        case measure => simp [intOf]; omega
    · have hlt1 : ¬ ((32 * k : Nat) : Int) < (n : Int) := by omega
      have hsl := slice_hi (A := ao) (n := 32 * k) (c := co) (k := n) (by omega)
      have HRES := Lib.hid (show BRow wr (.slice ao n co) (expS key info n) from by
        rw [← expS_at key info (n := n) (k := k) (by omega)]
        exact HO.out.brow.cutHi (k := n) (by rw [expO_length]; omega) (by rw [expO_length]; exact hco))
      go_wp2_with (at_builtin; refine wpList_append_B rfl (.const (.slice none 0 0)) (.tmp 37) rfl wr.heap.size _ [] (expS key info n) rfl (World.ownsRow_nil _ _ _ _) HRES.out (by rw [expS_length]; simp; omega) (Nat.le_refl _) ?_; intro v3 w10 hown3 hg3; rw [List.nil_append] at hown3; have HOT := Lib.hid hown3; have HB10 := Lib.hid (HB.out.grown hg3 HB.out.size (fun k hk => by cases hk)); clear hown3 hg3)
      go_ret
      obtain ⟨a5, c5, e5, _⟩ := HOT.out.cap
      rw [expS_length] at e5
      subst e5
      exact ⟨⟨a5, c5, rfl, HOT.out.brow⟩, HB10.out⟩

end Go.Proofs.YtnnllficjljjkaaDoor
