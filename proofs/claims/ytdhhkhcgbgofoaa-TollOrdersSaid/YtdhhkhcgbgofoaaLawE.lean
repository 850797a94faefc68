/-
  The walk of the law TollOrders: it returns true and leaves memory as it was, but for new blocks.
-/
import Derived.Test.YtdhhkhcgbgofoaaLawC
import Derived.Test.YtdhhkhcgbgofoaaOrder
import Derived.Test.YtdhhkhcgbgofoaaPlan
import Derived.Deep.QuietTactic
import Derived.BigQuiet
import Derived.Laws.Bits64
namespace Go.Proofs.Ytdhhkhcgbgofoaa
open Go.RowKit
set_option linter.unusedVariables false

/-- A number's lowest 41 bits. -/
def msk (x : Int) : Nat := (BitVec.ofInt 64 x &&& BitVec.ofInt 64 2199023255551).toNat
theorem msk_val (x : Int) : bits .and .i64 x 2199023255551 = (msk x : Int) := by
  show IntKind.i64.wrap ((BitVec.ofInt 64 x &&& BitVec.ofInt 64 2199023255551).toNat : Int) = _
  have h : (BitVec.ofInt 64 x &&& BitVec.ofInt 64 2199023255551).toNat < 2 ^ 41 := by
    rw [BitVec.toNat_and]
    exact Nat.and_lt_two_pow _ (by decide)
  unfold msk
  rw [IntKind.wrap_i64]
  omega
def cel (x y : Int) : Nat × Nat := (ofF (okB (msk x) (msk y)) (msk x), ofF (okB (msk x) (msk y)) (msk y))
theorem of_sym (e p : Int) (w : World) :
    Calls Try.prog 10 #[.int .i64 e, .int .i64 p] w fun x w' => x = .returned (.tuple #[.complex .f64 (ofF (okB e p) e) (ofF (okB e p) p), .bool (okB e p)]) ∧ w' = w :=
  (of_any e p w).mono fun _ _ ⟨h1, h2⟩ => ⟨h1, h2.symm⟩

/-! ### parts of a slice of complex numbers -/
def cutA (A : Option Addr) (c i : Nat) : Option Addr := if c = i then A else A.map (·.add (i * 1))
theorem cutA_zero (A : Option Addr) (c : Nat) : cutA A c 0 = A := by
  unfold cutA
  split
  · rfl
  · cases A with
    | none => rfl
    | some a => show some (a.add 0) = _; unfold Addr.add; simp
theorem elem_C : Try.prog.underlying 31 = some (.slice (Try.prog.elem 31)) := by kernel_rfl
theorem size_C (w : World) : (sizeOf (Try.prog.elem 31)).run Try.prog w = .ok 1 w := by kernel_rfl
theorem slice_lo {A : Option Addr} {n c i : Nat} (h1 : i ≤ n) (w : World) : (Instr.sliceAt 31 (.slice A n c) (some (.int .i64 i)) none none).run Try.prog w = .ok (.slice (cutA A c i) (n - i) (c - i)) w := by
  rw [run_sliceAt_slice _ _ _ _ _ _ elem_C, run_slice_l _ _ _ _ _ elem_C _ _ (by omega) (by omega), size_C]
  rfl
theorem slice_hi {A : Option Addr} {n c k : Nat} (h2 : k ≤ c) (w : World) : (Instr.sliceAt 31 (.slice A n c) none (some (.int .i64 k)) none).run Try.prog w = .ok (.slice A k c) w := by
  rw [run_sliceAt_slice _ _ _ _ _ _ elem_C, run_slice_h _ _ _ _ _ elem_C _ _ (by omega) (by omega), size_C]
  have := cutA_zero A c
  unfold cutA at this
  show Result.ok (Value.slice (if c = 0 then A else A.map (·.add (0 * 1))) ((k : Int).toNat - 0) (c - 0)) w = _
  rw [this]
  rfl

/-- A block that holds the numbers of a list from its head on. -/
def CAt (w : World) (g : Nat) (L : List (Nat × Nat)) : Prop := g < w.heap.size ∧ ∀ (i : Nat) (h : i < L.length), w.cell? ⟨g, i, none⟩ = some (cx L[i])
theorem CAt.below {w w' : World} {g : Nat} {L : List (Nat × Nat)} (h : CAt w g L) (hb : Below w.heap.size w w') : CAt w' g L :=
  ⟨Nat.lt_of_lt_of_le h.1 hb.size, fun i hi => (hb.cell (p := ⟨g, i, none⟩) h.1).trans (h.2 i hi)⟩
theorem CAt.hi {w : World} {g k c : Nat} {L : List (Nat × Nat)} (h : CAt w g L) (hk : k ≤ L.length) : CRow w (.slice (some ⟨g, 0, none⟩) k c) (L.take k) := by
  have hl : (L.take k).length = k := by rw [List.length_take]; omega
  refine .inr ⟨g, 0, c, by rw [hl], fun i hi => ?_⟩
  rw [hl] at hi
  rw [Nat.zero_add, h.2 i (by omega), List.getD_eq_getElem?_getD, List.getElem?_eq_getElem (by rw [hl]; exact hi), Option.getD_some, List.getElem_take]
  rfl
theorem cutA_at {g c i : Nat} : ∃ ad : Addr, cutA (some ⟨g, 0, none⟩) c i = some ad ∧ (c ≠ i → ad = ⟨g, i, none⟩) := by
  unfold cutA
  by_cases e : c = i
  · exact ⟨_, by rw [if_pos e], fun h => absurd e h⟩
  · refine ⟨⟨g, i, none⟩, ?_, fun _ => rfl⟩
    rw [if_neg e, Nat.mul_one]
    show some ((⟨g, 0, none⟩ : Addr).add i) = _
    unfold Addr.add
    split
    · rename_i h; subst h; rfl
    · simp
theorem CAt.lo {w : World} {g k c : Nat} {L : List (Nat × Nat)} (h : CAt w g L) (hk : k ≤ L.length) (hc : L.length ≤ c) : CRow w (.slice (cutA (some ⟨g, 0, none⟩) c k) (L.length - k) (c - k)) (L.drop k) := by
  by_cases e : L.length = k
  · left
    exact ⟨by rw [← e]; simp, _, _, by rw [e, Nat.sub_self]⟩
  · obtain ⟨ad, h1, h2⟩ := cutA_at (g := g) (c := c) (i := k)
    rw [h1, h2 (by omega)]
    refine .inr ⟨g, k, c - k, by rw [List.length_drop], fun i hi => ?_⟩
    rw [List.length_drop] at hi
    rw [h.2 (k + i) (by omega), List.getD_eq_getElem?_getD, List.getElem?_eq_getElem (by rw [List.length_drop]; exact hi), Option.getD_some, List.getElem_drop]
    rfl
theorem news_hi {w : World} {g k : Nat} {L : List (Nat × Nat)} (h : CAt w g L) {w' : World} (hb : Below w.heap.size w w') : ∀ j u, ((L.take k).map cx)[j]? = some u → w'.cell? ((⟨g, 0, none⟩ : Addr).add j) = some u := fun j u hu => by
  rw [List.getElem?_map, List.getElem?_take] at hu
  split at hu
  · rename_i hj
    have hlt : j < L.length := by
      rcases Nat.lt_or_ge j L.length with h | h
      · exact h
      · rw [List.getElem?_eq_none h] at hu; cases hu
    have hadd : (⟨g, 0, none⟩ : Addr).add j = ⟨g, j, none⟩ := by unfold Addr.add; split <;> simp_all
    rw [hadd, (h.below hb).2 j hlt]
    rw [List.getElem?_eq_getElem hlt] at hu
    exact hu
  · cases hu
theorem news_lo {w : World} {g k c : Nat} {L : List (Nat × Nat)} (h : CAt w g L) (hk : k ≤ L.length) (hc : L.length ≤ c) : ∃ ad : Addr, cutA (some ⟨g, 0, none⟩) c k = some ad ∧ ∀ (w' : World), Below w.heap.size w w' → ∀ j u, ((L.drop k).map cx)[j]? = some u → w'.cell? (ad.add j) = some u := by
  obtain ⟨ad, h1, h2⟩ := cutA_at (g := g) (c := c) (i := k)
  refine ⟨ad, h1, fun w' hb j u hu => ?_⟩
  have hj : j < L.length - k := by
    rcases Nat.lt_or_ge j (L.length - k) with h | h
    · exact h
    · rw [List.getElem?_eq_none (by simp; omega)] at hu; cases hu
  rw [h2 (by omega)]
  have hadd : (⟨g, k, none⟩ : Addr).add j = ⟨g, k + j, none⟩ := by unfold Addr.add; split <;> simp_all
  rw [hadd, (h.below hb).2 (k + j) (by omega)]
  rw [List.getElem?_map, List.getElem?_drop, List.getElem?_eq_getElem (by omega)] at hu
  exact hu
theorem CRow.below {w w' : World} {v : Value} {l : List (Nat × Nat)} (h : CRow w v l) (hb : Below w.heap.size w w') : CRow w' v l := by
  rcases h with ⟨h0, h1⟩ | ⟨b, off, c, rfl, h2⟩
  · exact .inl ⟨h0, h1⟩
  · by_cases h0 : l = []
    · subst h0; exact .inl ⟨rfl, _, _, rfl⟩
    · refine .inr ⟨b, off, c, rfl, fun i hi => ?_⟩
      have hlt := cell_block_lt (h2 i hi)
      exact (hb.cell (p := ⟨b, off + i, none⟩) hlt).trans (h2 i hi)
theorem crow_pair {w : World} {g c : Nat} {x0 y0 x1 y1 : Nat} (h : w.heap[g]? = some (.cells #[.complex .f64 x0 y0, .complex .f64 x1 y1] 24 (0, 0))) : CRow w (.slice (some ⟨g, 0, none⟩) 2 c) [(x0, y0), (x1, y1)] :=
  .inr ⟨g, 0, c, rfl, fun i hi => by
    have : i = 0 ∨ i = 1 := by simp at hi; omega
    rw [Nat.zero_add, cell_of_row w g _ _ _ _ h]
    rcases this with rfl | rfl <;> rfl⟩
theorem below_keep {W w' w1 : World} (h : Below W.heap.size W w') (hb : Below w'.heap.size w' w1) : Below W.heap.size W w1 := h.trans (hb.mono h.size)
theorem below_allocS {W w' : World} (h : Below W.heap.size W w') (o : Obj) : Below W.heap.size W (w'.alloc o) := h.alloc h.size o
theorem cx_oneCell (L : List (Nat × Nat)) : ∀ u ∈ L.map cx, u.oneCell' = true := fun u hu => by
  obtain ⟨y, _, rfl⟩ := List.mem_map.1 hu
  rfl
theorem eql_cx (a b : Nat) (w : World) (h1 : FloatKind.f64.format.order a a = some .eq) (h2 : FloatKind.f64.format.order b b = some .eq) : (binOp .eql 24 (.complex .f64 a b) (.complex .f64 a b)).run Try.prog w = .ok (.bool true) w := by
  go_simp

set_option maxRecDepth 100000 in
set_option maxHeartbeats 1000000 in
theorem tollOrders_in (b0 o0 c0 b1 o1 c1 : Nat) (l0 l1 : List Int) (k : Nat) (w : World) (hl : l0.length ≤ 60) (hp : 0 < l0.length) (hl1 : l0.length ≤ l1.length) (hk : k ≤ l0.length) (hb0 : b0 < w.heap.size) (hb1 : b1 < w.heap.size)
    (h0 : ∀ (i : Nat) (h : i < l0.length), w.cell? ⟨b0, o0 + i, none⟩ = some (.int .i64 l0[i])) (h1 : ∀ (i : Nat) (h : i < l1.length), w.cell? ⟨b1, o1 + i, none⟩ = some (.int .i64 l1[i])) :
    Calls Try.prog 6 #[.slice (some ⟨b0, o0, none⟩) l0.length c0, .slice (some ⟨b1, o1, none⟩) l1.length c1, .int .i64 k] w fun x w' => x = .returned (.bool true) ∧ Below w.heap.size w w' := by
  obtain ⟨i0, hi0, hz0, hz1, hz2⟩ := info_parts info24
  obtain ⟨L, hL⟩ : ∃ L : List (Nat × Nat), L = (l0.zip l1).map fun p => cel p.1 p.2 := ⟨_, rfl⟩
  have hlen : L.length = l0.length := by rw [hL, List.length_map, List.length_zip]; omega
  have HE := Lib.hid (show ∀ j (h : j < l0.length), L.take (j + 1) = L.take j ++ [cel l0[j] (l1[j]'(Nat.lt_of_lt_of_le h hl1))] from fun j h => by
    rw [List.take_succ_eq_append_getElem (by omega)]
    congr 2
    subst hL
    simp)
  have H0 := Lib.hid h0
  have H1 := Lib.hid h1
  have hd1 : decide ((60 : Int) < (l0.length : Int)) = false := decide_eq_false (by omega)
  have hd2 : decide (l1.length < l0.length) = false := decide_eq_false (by omega)
  have hd3 : decide (l0.length < k) = false := decide_eq_false (by omega)
  have HLEN := Lib.hid hlen
  clear h0 h1 hL hlen
  go_enter Try.func6, Try.ntmps6
  go_wp2_with (first | (go_at_call 9; refine (alive_any _).mono ?_; rintro e w' ⟨rfl, rfl⟩))
  clear hd1 hd2 hd3
  go_loopw [8, 9] (fun v i wr => ∃ j : Nat, j ≤ l0.length ∧ i = .int .i64 j ∧ wr.ownsRow w.heap.size 24 1 v j ((L.take j).map cx) ∧ Below w.heap.size w wr) (fun _ i _ => l0.length - (intOf i).toNat)
  case atStart => exact ⟨0, Nat.zero_le _, rfl, World.ownsRow_nil _ _ _ _, Below.refl _ _⟩
  case round =>
    obtain ⟨j, hj, rfl, hown, hbel⟩ := hrel
    have hsz := hbel.size
    by_cases hlt : j < l0.length
    · have hk0 : (0 : Int) ≤ (j : Int) := Int.natCast_nonneg _
      have hk1 : (j : Int) < (l0.length : Int) := by omega
      have hk2 : (j : Int) < (l1.length : Int) := by omega
      have hc0 := (hbel.cell (p := ⟨b0, o0 + j, none⟩) hb0).trans (H0.out j hlt)
      have hc1 := (hbel.cell (p := ⟨b1, o1 + j, none⟩) hb1).trans (H1.out j (by omega))
      have HT := Lib.hid (HE.out j hlt)
      generalize l0[j] = x at *
      generalize l1[j]'(by omega) = y at *
      have hm1 := msk_val x
      have hm2 := msk_val y
      have HOWN := Lib.hid hown
      have HLT := Lib.hid hown.lt
      have HBEL := Lib.hid hbel
      clear hown hbel
      go_wp2
      go_quiet ((go_at_call 10; exact Calls.quiet_of_same (of_sym _ _ _)))
      go_wp2_with (at_builtin; refine wpList_append_own _ rfl _ _ 31 rfl w.heap.size 24 i0 _ 1 16 Try.underlying31 hi0 hz0 hz1 hz2 rfl (by decide) u8 j _ rfl (World.ownsRow.alloc HOWN.out _) ⟨wr.heap.size, 0, none⟩ 1 1 [cx (cel x y)] rfl rfl ?c1 ?c2 ?c3 ?c4 ?c5 ?_)
      case c1 => exact cell_one_new (wr.drewN nq) _ _
      case c2 => exact cx_oneCell [cel x y]
      case c3 => unfold maxLen; omega
      case c4 => omega
      case c5 => simp; omega
      intro v' w1 hown' hgrow _
      have HB1 := Lib.hid (((below_drewN HBEL.out nq).alloc (by simp; omega) (.cells #[cx (cel x y)] 24)).grown hgrow (by simp; omega) (fun j hj => (HLT.out j hj).1))
      have HO1 := Lib.hid hown'
      clear hown' hgrow
      go_wp2
      go_roundw
      case rel =>
        refine ⟨j + 1, by omega, by go_num, ?_, HB1.out⟩
        have h := HO1.out
        rw [HT.out, List.map_append, List.map_take]
        exact h
      case measure => simp [intOf]; omega
    · obtain rfl : j = l0.length := by omega
      have hown2 : wr.ownsRow w.heap.size 24 1 u8 l0.length (L.map cx) := by
        rw [List.take_of_length_le (by rw [HLEN.out]; exact Nat.le_refl _)] at hown
        exact hown
      clear hown
      rcases hown2.2 with ⟨_, hz⟩ | ⟨g, cap, cur, rfl, hg1, hg2, hcap1, hcap2, _, _⟩
      · omega
      have hCA : CAt wr g L := ⟨(Array.getElem?_eq_some_iff.1 hg2).1, fun i hi => by
        have := hown2.cells (g := g) rfl i (cx L[i]) (by rw [List.getElem?_map, List.getElem?_eq_getElem hi]; rfl)
        have hadd : (⟨g, 0, none⟩ : Addr).add i = ⟨g, i, none⟩ := by unfold Addr.add; split <;> simp_all
        rw [hadd] at this
        exact this⟩
      have HCA := Lib.hid hCA
      obtain ⟨ad, had, hnews⟩ := news_lo (k := k) (c := cap) hCA (by rw [HLEN.out]; exact hk) (by rw [HLEN.out]; exact hcap1)
      have HNEWS := Lib.hid hnews
      have HAD := Lib.hid had
      have HBEL := Lib.hid hbel
      have HCAP := Lib.hid hcap1
      have HSL := Lib.hid (show ∀ w, (Instr.sliceAt 31 (.slice (some ⟨g, 0, none⟩) l0.length cap) (some (.int .i64 k)) none none).run Try.prog w = .ok (.slice (some ad) (l0.length - k) (cap - k)) w from fun w => by rw [slice_lo hk, HAD.out])
      have HSH := Lib.hid (show ∀ w, (Instr.sliceAt 31 (.slice (some ⟨g, 0, none⟩) l0.length cap) none (some (.int .i64 k)) none).run Try.prog w = .ok (.slice (some ⟨g, 0, none⟩) k cap) w from fun w => slice_hi (by have := HCAP.out; omega) w)
      clear hCA hown2 hg1 hg2 hcap1 hcap2 hnews had hbel
      go_wp2
      have hg3 := HCA.out.1
      obtain ⟨W, rfl⟩ : ∃ W : World, W = wr := ⟨_, rfl⟩
      refine wp_region_plan (S := fun w' => Below W.heap.size W w') [0, 1, 2, 4, 5, 6, 3, 7, 8] [true, true, true, true, true, true, false, false, true] (by kernel_rfl) (by kernel_rfl) (Below.refl _ _).drew (fun hHeld => ?_)
      simp only [List.filterMap_cons, List.filterMap_nil, List.getElem?_toArray, List.getElem?_cons_zero, List.getElem?_cons_succ]
      refine seqH_take (v := ?_) (Or.inl ⟨by rfl, ?_⟩) ?_
      rotate_left
      · (intro w hSw; go_simp; first | done | with_reducible rfl)
      try simp only [Act.put, List.setIfInBounds_toArray, List.set_cons_zero, List.set_cons_succ]
      refine seqH_take (v := ?_) (Or.inl ⟨by rfl, ?_⟩) ?_
      rotate_left
      · (intro w hSw; go_simp; first | done | with_reducible rfl)
      try simp only [Act.put, List.setIfInBounds_toArray, List.set_cons_zero, List.set_cons_succ]
      refine seqH_take (yieldsIf_slice (by rfl) _ _ _ _ rfl _ (fun w _ => HSL.out w)) ?_
      try simp only [Act.put, List.setIfInBounds_toArray, List.set_cons_zero, List.set_cons_succ]
      refine seqH_take (v := ?_) (Or.inl ⟨by rfl, ?_⟩) ?_
      rotate_left
      · (intro w hSw; go_simp; first | done | with_reducible rfl)
      try simp only [Act.put, List.setIfInBounds_toArray, List.set_cons_zero, List.set_cons_succ]
      refine seqH_take (v := ?_) (Or.inl ⟨by rfl, ?_⟩) ?_
      rotate_left
      · (intro w hSw; go_simp; first | done | with_reducible rfl)
      try simp only [Act.put, List.setIfInBounds_toArray, List.set_cons_zero, List.set_cons_succ]
      refine seqH_take (yieldsIf_slice (by rfl) _ _ _ _ rfl _ (fun w _ => HSH.out w)) ?_
      try simp only [Act.put, List.setIfInBounds_toArray, List.set_cons_zero, List.set_cons_succ]
      refine seqH_go (fun K hK => ?_)
      rw [if_pos (by rfl)]
      refine wp_append_own _ (.const (.slice none 0 0)) (.tmp 69) 31 rfl W.heap.size 24 i0 _ 1 16 Try.underlying31 hi0 hz0 hz1 hz2 rfl (by decide) (.slice none 0 0) 0 [] rfl (World.ownsRow_nil _ _ _ _) ad (l0.length - k) (cap - k) ((L.drop k).map cx) rfl (by rw [List.length_map, List.length_drop, HLEN.out]; omega) (HNEWS.out _ hHeld) (cx_oneCell _) (by unfold maxLen; omega) (by omega) hHeld.size ?_; intro v3 w3 hown3 hgr3 _; have hS3 : Below W.heap.size W w3 := hHeld.grown hgr3 hHeld.size (fun k hk => by cases hk); have HLT3 := Lib.hid hown3.lt; have HOWN3 := Lib.hid hown3; clear hown3 hgr3
      refine hK.out _ _ hS3 (fun hHeld2 => ?_)
      clear hK K hHeld hS3
      have hHeld := hHeld2
      clear hHeld2
      try simp only [Act.put, List.setIfInBounds_toArray, List.set_cons_zero, List.set_cons_succ]
      refine seqH_go (fun K hK => ?_)
      rw [if_pos (by rfl)]
      refine wp_append_own _ (.tmp 70) (.tmp 73) 31 rfl W.heap.size 24 i0 _ 1 16 Try.underlying31 hi0 hz0 hz1 hz2 rfl (by decide) v3 (0 + (l0.length - k)) ([] ++ (L.drop k).map cx) rfl HOWN3.out ⟨g, 0, none⟩ k cap ((L.take k).map cx) rfl (by rw [List.length_map, List.length_take, HLEN.out]; omega) (news_hi HCA.out hHeld) (cx_oneCell _) (by unfold maxLen; omega) (by omega) hHeld.size ?_; intro v4 w4 hown4 hgr4 _; have hS3 : Below W.heap.size W w4 := hHeld.grown hgr4 hHeld.size (fun k hk => (HLT3.out k hk).1); have HR4 := Lib.hid (show CRow w4 v4 (L.drop k ++ L.take k) from crow_of_own (n := 0 + (l0.length - k) + k) (base := W.heap.size) (by have := HLEN.out; simp; omega) (by rw [List.map_append]; exact hown4)); clear hown4 hgr4
      refine hK.out _ _ hS3 (fun hHeld2 => ?_)
      clear hK K hHeld hS3
      have hHeld := hHeld2
      clear hHeld2
      try simp only [Act.put, List.setIfInBounds_toArray, List.set_cons_zero, List.set_cons_succ]
      refine seqH_take (v := ?_) (Or.inl ⟨by rfl, ?_⟩) ?_
      rotate_left
      · (intro w hSw; go_simp; first | done | with_reducible rfl)
      try simp only [Act.put, List.setIfInBounds_toArray, List.set_cons_zero, List.set_cons_succ]
      refine seqH_nil (NoPanic.normal ?_)
      have hs := sumE_le L
      have HS0 := Lib.hid (fun w h => sum_any (.slice (some ⟨g, 0, none⟩) l0.length cap) L w (by rw [HLEN.out]; omega) h)
      have HM0 := Lib.hid (fun w h => sum_any v4 (L.drop k ++ L.take k) w (by have := HLEN.out; simp; omega) h)
      rw [sumE_turn] at HM0
      have HP0 := Lib.hid (fun w => parts_yes (sumE L).1 (sumE L).2 hs.1 hs.2 w)
      have HLO := Lib.hid (fun w h => sum_any (.slice (some ⟨g, 0, none⟩) k cap) (L.take k) w (by have := HLEN.out; simp; omega) h)
      have HHI := Lib.hid (fun w h => sum_any (.slice (some ad) (l0.length - k) (cap - k)) (L.drop k) w (by have := HLEN.out; simp; omega) h)
      have HPR := Lib.hid (fun g w h => sum_any (.slice (some ⟨g, 0, none⟩) 2 2) [(F (sumE (L.take k)).1, F (sumE (L.take k)).2), (F (sumE (L.drop k)).1, F (sumE (L.drop k)).2)] w (by simp) h)
      rw [sumE_parts] at HPR
      have HRL := Lib.hid (show CRow w4 (.slice (some ⟨g, 0, none⟩) l0.length cap) L from by
        have := (HCA.out.hi (k := l0.length) (c := cap) (by rw [HLEN.out]; exact Nat.le_refl _)).below hHeld
        rwa [List.take_of_length_le (by rw [HLEN.out]; exact Nat.le_refl _)] at this)
      have HRH := Lib.hid (show CRow w4 (.slice (some ⟨g, 0, none⟩) k cap) (L.take k) from (HCA.out.hi (by rw [HLEN.out]; exact hk)).below hHeld)
      have HRLO := Lib.hid (show CRow w4 (.slice (some ad) (l0.length - k) (cap - k)) (L.drop k) from by
        have := (HCA.out.lo (k := k) (c := cap) (by rw [HLEN.out]; exact hk) (by rw [HLEN.out]; exact HCAP.out)).below hHeld
        rw [HAD.out, HLEN.out] at this
        exact this)
      have HB4 := Lib.hid (HBEL.out.trans (hHeld.mono HBEL.out.size))
      have ho1 := order_self hs.1
      have ho2 := order_self hs.2
      obtain ⟨hs1, hs2⟩ := hs
      have hs3 : ((sumE L).1 : Int) ≤ 1099511627776 := by omega
      have hs4 : ((sumE L).2 : Int) ≤ 1099511627776 := by omega
      clear hHeld hs1 hs2
      generalize (sumE L).1 = S1 at *
      generalize (sumE L).2 = S2 at *
      generalize (sumE (L.take k)).1 = A1 at *
      generalize (sumE (L.take k)).2 = A2 at *
      generalize (sumE (L.drop k)).1 = D1 at *
      generalize (sumE (L.drop k)).2 = D2 at *
      go_wp2_with (first | (go_at_call 14; refine (HS0.out _ HRL.out).mono ?_; rintro e w' ⟨rfl, rfl⟩) | (go_at_call 12; refine (HP0.out _).mono ?_; rintro e w' ⟨rfl, rfl⟩))
      have HRM := HR4
      obtain ⟨V, rfl⟩ : ∃ V : World, V = w4 := ⟨_, rfl⟩
      refine wp_region_plan (S := fun w' => Below V.heap.size V w') [0, 1, 2, 3, 4, 5, 6, 7, 8, 9, 10, 11, 12, 13, 14, 15, 16, 17, 18, 19, 21, 22, 23, 20, 24, 25, 26, 27, 28, 29] [true, true, false, true, true, true, true, true, true, true, true, true, true, true, true, true, true, true, true, true, true, true, true, false, false, false, false, true, true, true] (by kernel_rfl) (by kernel_rfl) (Below.refl _ _).drew (fun hHeld => ?_)
      simp only [List.filterMap_cons, List.filterMap_nil, List.getElem?_toArray, List.getElem?_cons_zero, List.getElem?_cons_succ]
      refine seqH_take (v := ?_) (Or.inl ⟨by rfl, ?_⟩) ?_
      rotate_left
      · (intro w hSw; go_simp; first | done | with_reducible rfl)
      try simp only [Act.put, List.setIfInBounds_toArray, List.set_cons_zero, List.set_cons_succ]
      refine seqH_take (v := ?_) (Or.inl ⟨by rfl, ?_⟩) ?_
      rotate_left
      · (intro w hSw; go_simp; first | done | with_reducible rfl)
      try simp only [Act.put, List.setIfInBounds_toArray, List.set_cons_zero, List.set_cons_succ]
      refine seqH_go (fun K hK => ?_)
      rw [if_pos (by rfl)]
      go_simp
      refine (HM0.out _ (HRM.out.below hHeld)).mono ?_; rintro e w' ⟨rfl, rfl⟩
      dsimp only
      refine hK.out _ _ hHeld (fun hHeld2 => ?_)
      clear hK K hHeld
      have hHeld := hHeld2
      clear hHeld2
      try simp only [Act.put, List.setIfInBounds_toArray, List.set_cons_zero, List.set_cons_succ]
      refine seqH_take (v := ?_) (Or.inl ⟨by rfl, ?_⟩) ?_
      rotate_left
      · (intro w hSw; go_simp; first | done | with_reducible rfl)
      try simp only [Act.put, List.setIfInBounds_toArray, List.set_cons_zero, List.set_cons_succ]
      refine seqH_take (v := ?_) (Or.inl ⟨by rfl, ?_⟩) ?_
      rotate_left
      · (intro w hSw; go_simp; first | done | with_reducible rfl)
      try simp only [Act.put, List.setIfInBounds_toArray, List.set_cons_zero, List.set_cons_succ]
      refine seqH_take (v := ?_) (Or.inl ⟨by rfl, ?_⟩) ?_
      rotate_left
      · (intro w hSw; go_simp; first | done | with_reducible rfl)
      try simp only [Act.put, List.setIfInBounds_toArray, List.set_cons_zero, List.set_cons_succ]
      refine seqH_take (v := ?_) (Or.inl ⟨by rfl, ?_⟩) ?_
      rotate_left
      · (intro w hSw; go_simp; first | done | with_reducible rfl)
      try simp only [Act.put, List.setIfInBounds_toArray, List.set_cons_zero, List.set_cons_succ]
      refine seqH_take (v := ?_) (Or.inl ⟨by rfl, ?_⟩) ?_
      rotate_left
      · (intro w hSw; go_simp; first | done | with_reducible rfl)
      try simp only [Act.put, List.setIfInBounds_toArray, List.set_cons_zero, List.set_cons_succ]
      refine seqH_take (v := ?_) (Or.inl ⟨by rfl, ?_⟩) ?_
      rotate_left
      · (intro w hSw; go_simp; first | done | with_reducible rfl)
      try simp only [Act.put, List.setIfInBounds_toArray, List.set_cons_zero, List.set_cons_succ]
      refine seqH_take (v := ?_) (Or.inl ⟨by rfl, ?_⟩) ?_
      rotate_left
      · (intro w hSw; go_simp; first | done | with_reducible rfl)
      try simp only [Act.put, List.setIfInBounds_toArray, List.set_cons_zero, List.set_cons_succ]
      refine seqH_take (v := ?_) (Or.inl ⟨by rfl, ?_⟩) ?_
      rotate_left
      · (intro w hSw; go_simp; first | done | with_reducible rfl)
      try simp only [Act.put, List.setIfInBounds_toArray, List.set_cons_zero, List.set_cons_succ]
      refine seqH_take (v := ?_) (Or.inl ⟨by rfl, ?_⟩) ?_
      rotate_left
      · (intro w hSw; go_simp; first | done | with_reducible rfl)
      try simp only [Act.put, List.setIfInBounds_toArray, List.set_cons_zero, List.set_cons_succ]
      refine seqH_take (v := ?_) (Or.inl ⟨by rfl, ?_⟩) ?_
      rotate_left
      · (intro w hSw; go_simp; first | done | with_reducible rfl)
      try simp only [Act.put, List.setIfInBounds_toArray, List.set_cons_zero, List.set_cons_succ]
      refine seqH_take (v := ?_) (Or.inl ⟨by rfl, ?_⟩) ?_
      rotate_left
      · (intro w hSw; go_simp; first | done | with_reducible rfl)
      try simp only [Act.put, List.setIfInBounds_toArray, List.set_cons_zero, List.set_cons_succ]
      refine seqH_take (v := ?_) (Or.inl ⟨by rfl, ?_⟩) ?_
      rotate_left
      · (intro w hSw; go_simp; first | done | with_reducible rfl)
      try simp only [Act.put, List.setIfInBounds_toArray, List.set_cons_zero, List.set_cons_succ]
      refine seqH_take (v := ?_) (Or.inl ⟨by rfl, ?_⟩) ?_
      rotate_left
      · (intro w hSw; go_simp; first | done | with_reducible rfl)
      try simp only [Act.put, List.setIfInBounds_toArray, List.set_cons_zero, List.set_cons_succ]
      refine seqH_take (v := ?_) (Or.inl ⟨by rfl, ?_⟩) ?_
      rotate_left
      · (intro w hSw; go_simp; first | done | with_reducible rfl)
      try simp only [Act.put, List.setIfInBounds_toArray, List.set_cons_zero, List.set_cons_succ]
      refine seqH_take (v := ?_) (Or.inl ⟨by rfl, ?_⟩) ?_
      rotate_left
      · (intro w hSw; go_simp; first | done | with_reducible rfl)
      try simp only [Act.put, List.setIfInBounds_toArray, List.set_cons_zero, List.set_cons_succ]
      refine seqH_take (v := ?_) (Or.inl ⟨by rfl, ?_⟩) ?_
      rotate_left
      · (intro w hSw; go_simp; first | done | with_reducible rfl)
      try simp only [Act.put, List.setIfInBounds_toArray, List.set_cons_zero, List.set_cons_succ]
      refine seqH_take (yieldsIf_slice (by rfl) _ _ _ _ rfl _ (fun w _ => HSH.out w)) ?_
      try simp only [Act.put, List.setIfInBounds_toArray, List.set_cons_zero, List.set_cons_succ]
      refine seqH_take (v := ?_) (Or.inl ⟨by rfl, ?_⟩) ?_
      rotate_left
      · (intro w hSw; go_simp; first | done | with_reducible rfl)
      try simp only [Act.put, List.setIfInBounds_toArray, List.set_cons_zero, List.set_cons_succ]
      refine seqH_take (v := ?_) (Or.inl ⟨by rfl, ?_⟩) ?_
      rotate_left
      · (intro w hSw; go_simp; first | done | with_reducible rfl)
      try simp only [Act.put, List.setIfInBounds_toArray, List.set_cons_zero, List.set_cons_succ]
      refine seqH_take (yieldsIf_slice (by rfl) _ _ _ _ rfl _ (fun w _ => HSL.out w)) ?_
      try simp only [Act.put, List.setIfInBounds_toArray, List.set_cons_zero, List.set_cons_succ]
      refine seqH_go (fun K hK => ?_)
      rw [if_pos (by rfl)]
      go_simp
      refine (HLO.out _ (HRH.out.below hHeld)).mono ?_; rintro e w' ⟨rfl, rfl⟩
      dsimp only
      refine hK.out _ _ hHeld (fun hHeld2 => ?_)
      clear hK K hHeld
      have hHeld := hHeld2
      clear hHeld2
      try simp only [Act.put, List.setIfInBounds_toArray, List.set_cons_zero, List.set_cons_succ]
      refine seqH_go (fun K hK => ?_)
      rw [if_pos (by rfl)]
      go_simp
      refine (HHI.out _ (HRLO.out.below hHeld)).mono ?_; rintro e w' ⟨rfl, rfl⟩
      dsimp only
      refine hK.out _ _ hHeld (fun hHeld2 => ?_)
      clear hK K hHeld
      have hHeld := hHeld2
      clear hHeld2
      try simp only [Act.put, List.setIfInBounds_toArray, List.set_cons_zero, List.set_cons_succ]
      refine seqH_go (fun K hK => ?_)
      rw [if_pos (by rfl)]
      go_simp
      refine hK.out _ _ (below_allocS hHeld _) (fun hHeld2 => ?_)
      clear hK K hHeld
      have hHeld := hHeld2
      clear hHeld2
      try simp only [Act.put, List.setIfInBounds_toArray, List.set_cons_zero, List.set_cons_succ]
      refine seqH_go (fun K hK => ?_)
      rw [if_pos (by rfl)]
      go_simp
      refine (HPR.out V.heap.size _ (crow_pair (w := (V.alloc _).drew) (heap_alloc_new V _))).mono ?_; rintro e w' ⟨rfl, rfl⟩
      dsimp only
      refine hK.out _ _ hHeld (fun hHeld2 => ?_)
      clear hK K hHeld
      have hHeld := hHeld2
      clear hHeld2
      try simp only [Act.put, List.setIfInBounds_toArray, List.set_cons_zero, List.set_cons_succ]
      refine seqH_take (v := ?_) (Or.inl ⟨by rfl, ?_⟩) ?_
      rotate_left
      · (intro w hSw; go_simp; first | done | with_reducible rfl)
      try simp only [Act.put, List.setIfInBounds_toArray, List.set_cons_zero, List.set_cons_succ]
      refine seqH_take (v := ?_) (Or.inl ⟨by rfl, ?_⟩) ?_
      rotate_left
      · (intro w hSw; go_simp; first | done | with_reducible rfl)
      try simp only [Act.put, List.setIfInBounds_toArray, List.set_cons_zero, List.set_cons_succ]
      refine seqH_take (v := ?_) (Or.inl ⟨by rfl, ?_⟩) ?_
      rotate_left
      · (intro w hSw; go_simp; first | done | with_reducible rfl)
      try simp only [Act.put, List.setIfInBounds_toArray, List.set_cons_zero, List.set_cons_succ]
      refine seqH_nil (NoPanic.normal ?_)
      go_wp2
      go_ret
      exact ⟨rfl, HB4.out.trans (hHeld.mono HB4.out.size)⟩

theorem tollOrders_out (a0 a1 : Option Addr) (n0 c0 n1 c1 : Nat) (k : Int) (w : World) (h : 60 < n0 ∨ n1 < n0 ∨ k < 0 ∨ (n0 : Int) < k) :
    Calls Try.prog 6 #[.slice a0 n0 c0, .slice a1 n1 c1, .int .i64 k] w fun x w' => x = .returned (.bool true) ∧ w = w' := by
  by_cases h1 : (60 : Int) < (n0 : Int)
  · clear h
    go_enter Try.func6, Try.ntmps6
    go_wp2_with (first | (go_at_call 9; refine (alive_any _).mono ?_; rintro e w' ⟨rfl, rfl⟩))
    go_ret
    exact ⟨rfl, rfl⟩
  have hd1 : decide ((60 : Int) < (n0 : Int)) = false := decide_eq_false h1
  by_cases h2 : n1 < n0
  · clear h h1
    go_enter Try.func6, Try.ntmps6
    go_wp2_with (first | (go_at_call 9; refine (alive_any _).mono ?_; rintro e w' ⟨rfl, rfl⟩))
    go_ret
    exact ⟨rfl, rfl⟩
  have hd2 : decide (n1 < n0) = false := decide_eq_false h2
  by_cases h3 : k < 0
  · clear h h1 h2
    go_enter Try.func6, Try.ntmps6
    go_wp2_with (first | (go_at_call 9; refine (alive_any _).mono ?_; rintro e w' ⟨rfl, rfl⟩))
    go_ret
    exact ⟨rfl, rfl⟩
  have h4 : (n0 : Int) < k := by omega
  have hd3 : decide (k < 0) = false := decide_eq_false h3
  have hd4 : decide ((n0 : Int) < k) = true := decide_eq_true h4
  clear h h1 h2 h3
  go_enter Try.func6, Try.ntmps6
  go_wp2_with (first | (go_at_call 9; refine (alive_any _).mono ?_; rintro e w' ⟨rfl, rfl⟩))
  go_ret
  exact ⟨rfl, rfl⟩

theorem wp_append_none {o : Oper} {a : Act} {w : World} {K : Act → World → Prop} {Q : Exit → Act → World → Prop} (s x : Operand) (ho : o.op = .call { callee := .builtin .append, args := #[s, x], argTypes := #[31, 31] })
    (hs : a.eval s = .slice none 0 0) (hx : a.eval x = .slice none 0 0) (h : K (a.put o.dst (.slice none 0 0)) w) : o.wp Try.prog a w K Q := by
  obtain ⟨i0, hi0, _, _, _⟩ := info_parts info24
  have hrun := run_append_owned_none (P := Try.prog) (w := w) w.heap.size 31 o.type 24 i0 1 Try.underlying31 hi0 (.slice none 0 0) 0 [] (World.ownsRow_nil _ _ _ _)
  unfold Oper.wp
  simp [execOp, ho, resolve, invoke, builtin, hs, hx, hrun, Result.andThen]
  exact h

set_option maxRecDepth 100000 in
set_option maxHeartbeats 400000 in
theorem tollOrders_none (a0 a1 : Option Addr) (c0 n1 c1 : Nat) (w : World) :
    Calls Try.prog 6 #[.slice a0 0 c0, .slice a1 n1 c1, .int .i64 0] w fun x w' => x = .returned (.bool true) ∧ Below w.heap.size w w' := by
  have hcr : ∀ w, CRow w (.slice none 0 0) [] := fun w => .inl ⟨rfl, none, 0, rfl⟩
  have hs := sumE_le []
  have HS := Lib.hid (fun w => sum_any (.slice none 0 0) [] w (by decide) (hcr w))
  have HP0 := Lib.hid (fun w => parts_yes (sumE []).1 (sumE []).2 hs.1 hs.2 w)
  have HPR := Lib.hid (fun g w h => sum_any (.slice (some ⟨g, 0, none⟩) 2 2) [(F (sumE []).1, F (sumE []).2), (F (sumE []).1, F (sumE []).2)] w (by simp) h)
  have hpp := sumE_parts [] 0
  simp only [List.take_nil, List.drop_nil] at hpp
  rw [hpp] at HPR
  have HSL := Lib.hid (show ∀ w, (Instr.sliceAt 31 (.slice none 0 0) (some (.int .i64 0)) none none).run Try.prog w = .ok (.slice none 0 0) w from fun w => slice_lo (A := none) (n := 0) (c := 0) (i := 0) (by omega) w)
  have HSH := Lib.hid (show ∀ w, (Instr.sliceAt 31 (.slice none 0 0) none (some (.int .i64 0)) none).run Try.prog w = .ok (.slice none 0 0) w from fun w => slice_hi (A := none) (n := 0) (c := 0) (k := 0) (by omega) w)
  have ho1 := order_self hs.1
  have ho2 := order_self hs.2
  obtain ⟨hs1, hs2⟩ := hs
  have hs3 : ((sumE []).1 : Int) ≤ 1099511627776 := by omega
  have hs4 : ((sumE []).2 : Int) ≤ 1099511627776 := by omega
  have hd2 : decide (n1 < 0) = false := by simp
  clear hs1 hs2 hcr hpp
  generalize (sumE []).1 = S1 at *
  generalize (sumE []).2 = S2 at *
  go_enter Try.func6, Try.ntmps6
  go_wp2_with (first | (go_at_call 9; refine (alive_any _).mono ?_; rintro e w' ⟨rfl, rfl⟩))
  go_loop [8, 9] (fun v i => v = .slice none 0 0 ∧ i = .int .i64 0) (fun _ _ => 0)
  case atStart => exact ⟨rfl, rfl⟩
  case round =>
    obtain ⟨rfl, rfl⟩ := hrel
    go_wp2
    refine wp_region_plan (S := fun w' => Below w.heap.size w w') [0, 1, 2, 4, 5, 6, 3, 7, 8] [true, true, true, true, true, true, false, false, true] (by kernel_rfl) (by kernel_rfl) (Below.refl _ _).drew (fun hHeld => ?_)
    simp only [List.filterMap_cons, List.filterMap_nil, List.getElem?_toArray, List.getElem?_cons_zero, List.getElem?_cons_succ]
    refine seqH_take (v := ?_) (Or.inl ⟨by rfl, ?_⟩) ?_
    rotate_left
    · (intro w hSw; go_simp; first | done | with_reducible rfl)
    try simp only [Act.put, List.setIfInBounds_toArray, List.set_cons_zero, List.set_cons_succ]
    refine seqH_take (v := ?_) (Or.inl ⟨by rfl, ?_⟩) ?_
    rotate_left
    · (intro w hSw; go_simp; first | done | with_reducible rfl)
    try simp only [Act.put, List.setIfInBounds_toArray, List.set_cons_zero, List.set_cons_succ]
    refine seqH_take (yieldsIf_slice (by rfl) _ _ _ _ rfl _ (fun w _ => HSL.out w)) ?_
    try simp only [Act.put, List.setIfInBounds_toArray, List.set_cons_zero, List.set_cons_succ]
    refine seqH_take (v := ?_) (Or.inl ⟨by rfl, ?_⟩) ?_
    rotate_left
    · (intro w hSw; go_simp; first | done | with_reducible rfl)
    try simp only [Act.put, List.setIfInBounds_toArray, List.set_cons_zero, List.set_cons_succ]
    refine seqH_take (v := ?_) (Or.inl ⟨by rfl, ?_⟩) ?_
    rotate_left
    · (intro w hSw; go_simp; first | done | with_reducible rfl)
    try simp only [Act.put, List.setIfInBounds_toArray, List.set_cons_zero, List.set_cons_succ]
    refine seqH_take (yieldsIf_slice (by rfl) _ _ _ _ rfl _ (fun w _ => HSH.out w)) ?_
    try simp only [Act.put, List.setIfInBounds_toArray, List.set_cons_zero, List.set_cons_succ]
    refine seqH_go (fun K hK => ?_)
    rw [if_pos (by rfl)]
    refine wp_append_none (.const (.slice none 0 0)) (.tmp 69) rfl rfl rfl ?_; have hS3 := hHeld
    refine hK.out _ _ hS3 (fun hHeld2 => ?_)
    clear hK K hHeld hS3
    have hHeld := hHeld2
    clear hHeld2
    try simp only [Act.put, List.setIfInBounds_toArray, List.set_cons_zero, List.set_cons_succ]
    refine seqH_go (fun K hK => ?_)
    rw [if_pos (by rfl)]
    refine wp_append_none (.tmp 70) (.tmp 73) rfl rfl rfl ?_; have hS3 := hHeld
    refine hK.out _ _ hS3 (fun hHeld2 => ?_)
    clear hK K hHeld hS3
    have hHeld := hHeld2
    clear hHeld2
    try simp only [Act.put, List.setIfInBounds_toArray, List.set_cons_zero, List.set_cons_succ]
    refine seqH_take (v := ?_) (Or.inl ⟨by rfl, ?_⟩) ?_
    rotate_left
    · (intro w hSw; go_simp; first | done | with_reducible rfl)
    try simp only [Act.put, List.setIfInBounds_toArray, List.set_cons_zero, List.set_cons_succ]
    refine seqH_nil (NoPanic.normal ?_)
    have HB4 := Lib.hid hHeld
    clear hHeld
    generalize w.drew = w4 at *
    go_wp2_with (first | (go_at_call 14; refine (HS.out _).mono ?_; rintro e w' ⟨rfl, rfl⟩) | (go_at_call 12; refine (HP0.out _).mono ?_; rintro e w' ⟨rfl, rfl⟩))
    obtain ⟨V, rfl⟩ : ∃ V : World, V = w4 := ⟨_, rfl⟩
    refine wp_region_plan (S := fun w' => Below V.heap.size V w') [0, 1, 2, 3, 4, 5, 6, 7, 8, 9, 10, 11, 12, 13, 14, 15, 16, 17, 18, 19, 21, 22, 23, 20, 24, 25, 26, 27, 28, 29] [true, true, false, true, true, true, true, true, true, true, true, true, true, true, true, true, true, true, true, true, true, true, true, false, false, false, false, true, true, true] (by kernel_rfl) (by kernel_rfl) (Below.refl _ _).drew (fun hHeld => ?_)
    simp only [List.filterMap_cons, List.filterMap_nil, List.getElem?_toArray, List.getElem?_cons_zero, List.getElem?_cons_succ]
    refine seqH_take (v := ?_) (Or.inl ⟨by rfl, ?_⟩) ?_
    rotate_left
    · (intro w hSw; go_simp; first | done | with_reducible rfl)
    try simp only [Act.put, List.setIfInBounds_toArray, List.set_cons_zero, List.set_cons_succ]
    refine seqH_take (v := ?_) (Or.inl ⟨by rfl, ?_⟩) ?_
    rotate_left
    · (intro w hSw; go_simp; first | done | with_reducible rfl)
    try simp only [Act.put, List.setIfInBounds_toArray, List.set_cons_zero, List.set_cons_succ]
    refine seqH_go (fun K hK => ?_)
    rw [if_pos (by rfl)]
    go_simp
    refine (HS.out _).mono ?_; rintro e w' ⟨rfl, rfl⟩
    dsimp only
    refine hK.out _ _ hHeld (fun hHeld2 => ?_)
    clear hK K hHeld
    have hHeld := hHeld2
    clear hHeld2
    try simp only [Act.put, List.setIfInBounds_toArray, List.set_cons_zero, List.set_cons_succ]
    refine seqH_take (v := ?_) (Or.inl ⟨by rfl, ?_⟩) ?_
    rotate_left
    · (intro w hSw; go_simp; first | done | with_reducible rfl)
    try simp only [Act.put, List.setIfInBounds_toArray, List.set_cons_zero, List.set_cons_succ]
    refine seqH_take (v := ?_) (Or.inl ⟨by rfl, ?_⟩) ?_
    rotate_left
    · (intro w hSw; go_simp; first | done | with_reducible rfl)
    try simp only [Act.put, List.setIfInBounds_toArray, List.set_cons_zero, List.set_cons_succ]
    refine seqH_take (v := ?_) (Or.inl ⟨by rfl, ?_⟩) ?_
    rotate_left
    · (intro w hSw; go_simp; first | done | with_reducible rfl)
    try simp only [Act.put, List.setIfInBounds_toArray, List.set_cons_zero, List.set_cons_succ]
    refine seqH_take (v := ?_) (Or.inl ⟨by rfl, ?_⟩) ?_
    rotate_left
    · (intro w hSw; go_simp; first | done | with_reducible rfl)
    try simp only [Act.put, List.setIfInBounds_toArray, List.set_cons_zero, List.set_cons_succ]
    refine seqH_take (v := ?_) (Or.inl ⟨by rfl, ?_⟩) ?_
    rotate_left
    · (intro w hSw; go_simp; first | done | with_reducible rfl)
    try simp only [Act.put, List.setIfInBounds_toArray, List.set_cons_zero, List.set_cons_succ]
    refine seqH_take (v := ?_) (Or.inl ⟨by rfl, ?_⟩) ?_
    rotate_left
    · (intro w hSw; go_simp; first | done | with_reducible rfl)
    try simp only [Act.put, List.setIfInBounds_toArray, List.set_cons_zero, List.set_cons_succ]
    refine seqH_take (v := ?_) (Or.inl ⟨by rfl, ?_⟩) ?_
    rotate_left
    · (intro w hSw; go_simp; first | done | with_reducible rfl)
    try simp only [Act.put, List.setIfInBounds_toArray, List.set_cons_zero, List.set_cons_succ]
    refine seqH_take (v := ?_) (Or.inl ⟨by rfl, ?_⟩) ?_
    rotate_left
    · (intro w hSw; go_simp; first | done | with_reducible rfl)
    try simp only [Act.put, List.setIfInBounds_toArray, List.set_cons_zero, List.set_cons_succ]
    refine seqH_take (v := ?_) (Or.inl ⟨by rfl, ?_⟩) ?_
    rotate_left
    · (intro w hSw; go_simp; first | done | with_reducible rfl)
    try simp only [Act.put, List.setIfInBounds_toArray, List.set_cons_zero, List.set_cons_succ]
    refine seqH_take (v := ?_) (Or.inl ⟨by rfl, ?_⟩) ?_
    rotate_left
    · (intro w hSw; go_simp; first | done | with_reducible rfl)
    try simp only [Act.put, List.setIfInBounds_toArray, List.set_cons_zero, List.set_cons_succ]
    refine seqH_take (v := ?_) (Or.inl ⟨by rfl, ?_⟩) ?_
    rotate_left
    · (intro w hSw; go_simp; first | done | with_reducible rfl)
    try simp only [Act.put, List.setIfInBounds_toArray, List.set_cons_zero, List.set_cons_succ]
    refine seqH_take (v := ?_) (Or.inl ⟨by rfl, ?_⟩) ?_
    rotate_left
    · (intro w hSw; go_simp; first | done | with_reducible rfl)
    try simp only [Act.put, List.setIfInBounds_toArray, List.set_cons_zero, List.set_cons_succ]
    refine seqH_take (v := ?_) (Or.inl ⟨by rfl, ?_⟩) ?_
    rotate_left
    · (intro w hSw; go_simp; first | done | with_reducible rfl)
    try simp only [Act.put, List.setIfInBounds_toArray, List.set_cons_zero, List.set_cons_succ]
    refine seqH_take (v := ?_) (Or.inl ⟨by rfl, ?_⟩) ?_
    rotate_left
    · (intro w hSw; go_simp; first | done | with_reducible rfl)
    try simp only [Act.put, List.setIfInBounds_toArray, List.set_cons_zero, List.set_cons_succ]
    refine seqH_take (v := ?_) (Or.inl ⟨by rfl, ?_⟩) ?_
    rotate_left
    · (intro w hSw; go_simp; first | done | with_reducible rfl)
    try simp only [Act.put, List.setIfInBounds_toArray, List.set_cons_zero, List.set_cons_succ]
    refine seqH_take (v := ?_) (Or.inl ⟨by rfl, ?_⟩) ?_
    rotate_left
    · (intro w hSw; go_simp; first | done | with_reducible rfl)
    try simp only [Act.put, List.setIfInBounds_toArray, List.set_cons_zero, List.set_cons_succ]
    refine seqH_take (yieldsIf_slice (by rfl) _ _ _ _ rfl _ (fun w _ => HSH.out w)) ?_
    try simp only [Act.put, List.setIfInBounds_toArray, List.set_cons_zero, List.set_cons_succ]
    refine seqH_take (v := ?_) (Or.inl ⟨by rfl, ?_⟩) ?_
    rotate_left
    · (intro w hSw; go_simp; first | done | with_reducible rfl)
    try simp only [Act.put, List.setIfInBounds_toArray, List.set_cons_zero, List.set_cons_succ]
    refine seqH_take (v := ?_) (Or.inl ⟨by rfl, ?_⟩) ?_
    rotate_left
    · (intro w hSw; go_simp; first | done | with_reducible rfl)
    try simp only [Act.put, List.setIfInBounds_toArray, List.set_cons_zero, List.set_cons_succ]
    refine seqH_take (yieldsIf_slice (by rfl) _ _ _ _ rfl _ (fun w _ => HSL.out w)) ?_
    try simp only [Act.put, List.setIfInBounds_toArray, List.set_cons_zero, List.set_cons_succ]
    refine seqH_go (fun K hK => ?_)
    rw [if_pos (by rfl)]
    go_simp
    refine (HS.out _).mono ?_; rintro e w' ⟨rfl, rfl⟩
    dsimp only
    refine hK.out _ _ hHeld (fun hHeld2 => ?_)
    clear hK K hHeld
    have hHeld := hHeld2
    clear hHeld2
    try simp only [Act.put, List.setIfInBounds_toArray, List.set_cons_zero, List.set_cons_succ]
    refine seqH_go (fun K hK => ?_)
    rw [if_pos (by rfl)]
    go_simp
    refine (HS.out _).mono ?_; rintro e w' ⟨rfl, rfl⟩
    dsimp only
    refine hK.out _ _ hHeld (fun hHeld2 => ?_)
    clear hK K hHeld
    have hHeld := hHeld2
    clear hHeld2
    try simp only [Act.put, List.setIfInBounds_toArray, List.set_cons_zero, List.set_cons_succ]
    refine seqH_go (fun K hK => ?_)
    rw [if_pos (by rfl)]
    go_simp
    refine hK.out _ _ (below_allocS hHeld _) (fun hHeld2 => ?_)
    clear hK K hHeld
    have hHeld := hHeld2
    clear hHeld2
    try simp only [Act.put, List.setIfInBounds_toArray, List.set_cons_zero, List.set_cons_succ]
    refine seqH_go (fun K hK => ?_)
    rw [if_pos (by rfl)]
    go_simp
    refine (HPR.out V.heap.size _ (crow_pair (w := (V.alloc _).drew) (heap_alloc_new V _))).mono ?_; rintro e w' ⟨rfl, rfl⟩
    dsimp only
    refine hK.out _ _ hHeld (fun hHeld2 => ?_)
    clear hK K hHeld
    have hHeld := hHeld2
    clear hHeld2
    try simp only [Act.put, List.setIfInBounds_toArray, List.set_cons_zero, List.set_cons_succ]
    refine seqH_take (v := ?_) (Or.inl ⟨by rfl, ?_⟩) ?_
    rotate_left
    · (intro w hSw; go_simp; first | done | with_reducible rfl)
    try simp only [Act.put, List.setIfInBounds_toArray, List.set_cons_zero, List.set_cons_succ]
    refine seqH_take (v := ?_) (Or.inl ⟨by rfl, ?_⟩) ?_
    rotate_left
    · (intro w hSw; go_simp; first | done | with_reducible rfl)
    try simp only [Act.put, List.setIfInBounds_toArray, List.set_cons_zero, List.set_cons_succ]
    refine seqH_take (v := ?_) (Or.inl ⟨by rfl, ?_⟩) ?_
    rotate_left
    · (intro w hSw; go_simp; first | done | with_reducible rfl)
    try simp only [Act.put, List.setIfInBounds_toArray, List.set_cons_zero, List.set_cons_succ]
    refine seqH_nil (NoPanic.normal ?_)
    go_wp2
    go_ret
    exact ⟨rfl, HB4.out.trans (hHeld.mono HB4.out.size)⟩

theorem tollOrders_walk {w : World} (v0 : Value) (l0 : List Int) (r0 : SlR (Value.int .i64) w v0 l0) (q0 : ∀ y ∈ l0, (Lit.int .i64 y).wf = true) (v1 : Value) (l1 : List Int) (r1 : SlR (Value.int .i64) w v1 l1) (q1 : ∀ y ∈ l1, (Lit.int .i64 y).wf = true) (k : Int) (wk : (Lit.int .i64 k).wf = true) :
    Calls Try.prog 6 #[v0, v1, .int .i64 k] w fun x w' => x = .returned (.bool true) ∧ Below w.heap.size w w' := by
  obtain ⟨a0, c0, rfl, hc0, g0⟩ := r0.shape
  obtain ⟨a1, c1, rfl, hc1, g1⟩ := r1.shape
  by_cases h : 60 < l0.length ∨ l1.length < l0.length ∨ k < 0 ∨ (l0.length : Int) < k
  · exact (tollOrders_out a0 a1 _ c0 _ c1 k w h).mono fun e w' ⟨h1, h2⟩ => ⟨h1, h2 ▸ Below.refl _ _⟩
  · obtain ⟨k, rfl⟩ := Int.eq_ofNat_of_zero_le (show 0 ≤ k by omega)
    by_cases hz : l0.length = 0
    · obtain rfl : k = 0 := by omega
      rw [hz]
      exact tollOrders_none a0 a1 c0 _ c1 w
    · have e1 : l0.length ≤ 60 := by omega
      have e2 : 0 < l0.length := by omega
      have e3 : l0.length ≤ l1.length := by omega
      have e4 : k ≤ l0.length := by omega
      obtain ⟨b0, o0, rfl, hb0, f0⟩ := g0 e2
      obtain ⟨b1, o1, rfl, hb1, f1⟩ := g1 (Nat.lt_of_lt_of_le e2 e3)
      exact tollOrders_in b0 o0 c0 b1 o1 c1 l0 l1 k w e1 e2 e3 e4 hb0 hb1 f0 f1

end Go.Proofs.Ytdhhkhcgbgofoaa
