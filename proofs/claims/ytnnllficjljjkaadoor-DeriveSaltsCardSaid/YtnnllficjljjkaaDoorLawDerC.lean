/-
  The walk of the law DeriveSalts.
-/
import Derived.Test.YtnnllficjljjkaaDoorLawDerA
import Derived.Test.YtnnllficjljjkaaDoorLawMacA
namespace Go.Proofs.YtnnllficjljjkaaDoor
open Go.RowKit
set_option linter.unusedVariables false
set_option linter.unusedSimpArgs false

theorem map_zero_rep (n : Nat) : ((List.range n).map fun _ => (0 : BitVec 8)) = List.replicate n 0 := by
  apply List.ext_getElem
  · simp
  · intro i h1 h2; simp
theorem brow_zero {w : World} {g : Nat} (n : Nat) (h : w.heap[g]? = some (.cells (rowB n fun _ => 0) 5 (0, 0))) : BRow w (.slice (some ⟨g, 0, none⟩) n n) (List.replicate n 0) := by
  rw [← map_zero_rep]
  exact brow_row h
theorem wp_make_b_to {o : Oper} {a : Act} {w : World} {K : Act → World → Prop} {Q : Exit → Act → World → Prop} (x y : Operand) (ho : o.op = .makeSlice 25 x y) (n : Nat) (hn : n ≤ 1000000000)
    (hx : a.eval x = .int .i64 (n : Int)) (hy : a.eval y = .int .i64 (n : Int))
    (h : ∀ g w', BRow w' (.slice (some ⟨g, 0, none⟩) n n) (List.replicate n 0) → w.grownBy w' none → K (a.put o.dst (.slice (some ⟨g, 0, none⟩) n n)) w') : o.wp Tryd.prog a w K Q := by
  unfold Oper.wp execOp
  simp only [ho, hx, hy, Sem.run_bind, make_B n hn w, Result.andThen_ok, Sem.run_pure]
  exact h _ _ (brow_zero n (heap_alloc_new _ _)) (grown_alloc (grown_refl _ _) _)
theorem wp_build_s_to {o : Oper} {a : Act} {w : World} {K : Act → World → Prop} {Q : Exit → Act → World → Prop} (x : Operand) (ho : o.op = .buildSlice 22 1 #[(0, x)])
    (A : Option Addr) (n c : Nat) (hx : a.eval x = .slice A n c)
    (h : ∀ g w', w'.heap[g]? = some (.cells #[.slice A n c] 25 (0, 0)) → w.grownBy w' none → K (a.put o.dst (.slice (some ⟨g, 0, none⟩) 1 1)) w') : o.wp Tryd.prog a w K Q := by
  obtain ⟨i0, hi0, hz0, hz1, hz2⟩ := info_parts info_sl
  refine wp_buildSlice 22 25 1 #[(0, x)] ho #[.slice A n c] i0 _ Tryd.underlying22 hi0 hz0 (by rw [hz1]; decide) (by rw [hz1]; decide) ?_ (h _ _ (heap_alloc_new w _) (grown_alloc (grown_refl _ _) _))
  rw [hz1]
  have e : (Array.map (fun (y : Nat × Operand) => (y.1, a.eval y.2)) #[(0, x)]).toList = [(0, Value.slice A n c)] := by simp [hx]
  rw [e]
  have e1 : Array.range 1 = #[0] := rfl
  simp [Instr.fill, Value.cells, e1]

set_option maxRecDepth 100000 in
set_option maxHeartbeats 2000000 in
theorem deriveSalts_in (a a2 : Option Addr) (c c2 : Nat) (salt key : List (BitVec 8)) (n : Nat) (w : World) (hv : BRow w (.slice a salt.length c) salt) (hvb : BRow w (.slice a2 key.length c2) key) (hs : salt.length ≤ 300) (hk : key.length ≤ 500) (hn : n ≤ 64) (hka : KAt w) :
    Calls Tryd.prog 17 #[.slice a salt.length c, .slice a2 key.length c2, .int .i64 (n : Int)] w fun e w' => e = .returned (.bool true) ∧ Below w.heap.size w w' := by
  have hz1 : ((300 : Int) < (salt.length : Int)) = False := eq_false (by omega)
  have hz2 : ((500 : Int) < (key.length : Int)) = False := eq_false (by omega)
  have hn0 : (0 : Int) ≤ (n : Int) := by omega
  have hn1 : (n : Int) ≤ 64 := by omega
  obtain ⟨s1, hs1⟩ : ∃ s, s = macS [] key := ⟨_, rfl⟩
  obtain ⟨s2, hs2⟩ : ∃ s, s = macS salt key := ⟨_, rfl⟩
  have HE1 := Lib.hid (show ∀ (v vb : Value) (w : World), BRow w v [] → BRow w vb key → Calls Tryd.prog 39 #[v, vb] w fun e w' => e = .returned (.agg (rowB 32 s1)) ∧ Below w.heap.size w w' from fun v vb w h1 h2 => by
    rw [hs1]; exact extract_any v vb [] key w h1 h2 (by simp) (by omega))
  have HE2 := Lib.hid (show ∀ (v vb : Value) (w : World), BRow w v (List.replicate n 0) → BRow w vb key → Calls Tryd.prog 39 #[v, vb] w fun e w' => e = .returned (.agg (rowB 32 s1)) ∧ Below w.heap.size w w' from fun v vb w h1 h2 => by
    have := extract_any v vb (List.replicate n 0) key w h1 h2 (by simp; omega) (by omega)
    have e := macS_zeros [] key n (by simpa using hn)
    rw [List.nil_append] at e
    rw [e, ← hs1] at this
    exact this)
  have HE3 := Lib.hid (show ∀ (v vb : Value) (w : World), BRow w v salt → BRow w vb key → Calls Tryd.prog 39 #[v, vb] w fun e w' => e = .returned (.agg (rowB 32 s2)) ∧ Below w.heap.size w w' from fun v vb w h1 h2 => by
    rw [hs2]; exact extract_any v vb salt key w h1 h2 (by omega) (by omega))
  have HE4 := Lib.hid (show ∀ (v vb : Value) (w : World), BRow w v salt → BRows w vb [key] → Calls Tryd.prog 32 #[v, vb] w fun e w' => e = .returned (.agg (rowB 32 s2)) ∧ Below w.heap.size w w' from fun v vb w h1 h2 => by
    have := mac_any v vb salt [key] w h1 h2 (by omega) (by simp) (by simp; omega)
    rw [show ([key] : List (List (BitVec 8))).flatten = key by simp, ← hs2] at this
    exact this)
  have HV := Lib.hid hv
  have HVB := Lib.hid hvb
  have HK := Lib.hid hka
  have hnil : ∀ w, BRow w (.slice none 0 0) [] := fun w => ⟨none, 0, rfl, fun _ => rfl, fun h => absurd h (by simp)⟩
  have HNIL := Lib.hid hnil
  have HMK := Lib.hid (make_B n (by omega))
  clear hv hvb hs hk hka hs1 hs2 hnil
  go_enter Tryd.func17, Tryd.ntmps17
  go_wp2_with (go_at_call 34; refine (alive8_any _ HK.out).mono ?_; rintro e w2 ⟨rfl, hb2⟩; have HB2 := Lib.hid hb2; have HV2 := Lib.hid (HV.out.below hb2); have HVB2 := Lib.hid (HVB.out.below hb2); clear hb2)
  have hn9 : n ≤ 1000000000 := by omega
  clear HMK
  refine wp_region_tree (S := fun w' => Below w2.heap.size w2 w') 18 (by kernel_rfl) (by kernel_rfl) (Below.refl _ _).drew (fun hHeld => ?_)
  refine wpAnyH_take (i := 0) (v := ?_) rfl (by kernel_rfl) (by kernel_rfl) (by kernel_rfl) (fun _ _ _ h => h) (Or.inl ⟨by rfl, ?_⟩) hHeld ?_
  rotate_left
  · (intro w hSw; go_simp; first | done | with_reducible rfl)
  try simp only [Act.put, List.getElem_toArray, List.getElem_cons_zero, List.getElem_cons_succ, List.setIfInBounds_toArray, List.set_cons_zero, List.set_cons_succ]
  refine wpAnyH_take (i := 2) (v := ?_) rfl (by kernel_rfl) (by kernel_rfl) (by kernel_rfl) (fun _ _ _ h => h) (Or.inl ⟨by rfl, ?_⟩) hHeld ?_
  rotate_left
  · (intro w hSw; go_simp; first | done | with_reducible rfl)
  try simp only [Act.put, List.getElem_toArray, List.getElem_cons_zero, List.getElem_cons_succ, List.setIfInBounds_toArray, List.set_cons_zero, List.set_cons_succ]
  refine wpAnyH_take (i := 4) (v := ?_) rfl (by kernel_rfl) (by kernel_rfl) (by kernel_rfl) (fun _ _ _ h => h) (Or.inl ⟨by rfl, ?_⟩) hHeld ?_
  rotate_left
  · (intro w hSw; go_simp; first | done | with_reducible rfl)
  try simp only [Act.put, List.getElem_toArray, List.getElem_cons_zero, List.getElem_cons_succ, List.setIfInBounds_toArray, List.set_cons_zero, List.set_cons_succ]
  refine wpAnyH_ready (rs := [1, 3]) (by kernel_rfl) (by simp) ((AllReadyH.cons rfl (fun K hK => ?_) (AllReadyH.cons rfl (fun K hK => ?_) AllReadyH.nil)))
  · rw [if_pos (by rfl)]
    go_simp; refine (HE1.out _ _ _ (HNIL.out _) (HVB2.out.below hHeld)).mono ?_; rintro e w1 ⟨rfl, hbc⟩; dsimp only
    refine hK.out _ _ (below_keep hHeld hbc) (fun hHeld2 => ?_)
    clear hK K hHeld
    have hHeld := hHeld2
    clear hHeld2
    try simp only [Act.put, List.getElem_toArray, List.getElem_cons_zero, List.getElem_cons_succ, List.setIfInBounds_toArray, List.set_cons_zero, List.set_cons_succ]
    refine wpAnyH_ready (rs := [3]) (by kernel_rfl) (by simp) ((AllReadyH.cons rfl (fun K hK => ?_) AllReadyH.nil))
    rw [if_pos (by rfl)]
    refine wp_make_b_to (.tmp 32) (.tmp 32) rfl n hn9 rfl rfl ?_; intro g3 w3 h3 hg3
    refine hK.out _ _ (hHeld.grown hg3 hHeld.size (fun k hk => by cases hk)) (fun hHeld2 => ?_)
    clear hK K hHeld
    have hHeld := hHeld2
    clear hHeld2
    try simp only [Act.put, List.getElem_toArray, List.getElem_cons_zero, List.getElem_cons_succ, List.setIfInBounds_toArray, List.set_cons_zero, List.set_cons_succ]
    refine wpAnyH_ready (rs := [5]) (by kernel_rfl) (by simp) ((AllReadyH.cons rfl (fun K hK => ?_) AllReadyH.nil))
    rw [if_pos (by rfl)]
    go_simp; refine (HE2.out _ _ _ h3 (HVB2.out.below hHeld)).mono ?_; rintro e w5 ⟨rfl, hbc⟩; dsimp only
    refine hK.out _ _ (below_keep hHeld hbc) (fun hHeld2 => ?_)
    clear hK K hHeld
    have hHeld := hHeld2
    clear hHeld2
    try simp only [Act.put, List.getElem_toArray, List.getElem_cons_zero, List.getElem_cons_succ, List.setIfInBounds_toArray, List.set_cons_zero, List.set_cons_succ]
    refine wpAnyH_take (i := 6) rfl (by kernel_rfl) (by kernel_rfl) (by kernel_rfl) (fun _ _ _ h => h) (yieldsIf_eqNum (by rfl) _ _ rfl s1 s1 rfl rfl true (eqB_self s1)) hHeld ?_
    try simp only [Act.put, List.getElem_toArray, List.getElem_cons_zero, List.getElem_cons_succ, List.setIfInBounds_toArray, List.set_cons_zero, List.set_cons_succ]
    refine wpAnyH_take (i := 7) (v := ?_) rfl (by kernel_rfl) (by kernel_rfl) (by kernel_rfl) (fun _ _ _ h => h) (Or.inl ⟨by rfl, ?_⟩) hHeld ?_
    rotate_left
    · (intro w hSw; go_simp; first | done | with_reducible rfl)
    try simp only [Act.put, List.getElem_toArray, List.getElem_cons_zero, List.getElem_cons_succ, List.setIfInBounds_toArray, List.set_cons_zero, List.set_cons_succ]
    refine wpAnyH_take (i := 8) (v := ?_) rfl (by kernel_rfl) (by kernel_rfl) (by kernel_rfl) (fun _ _ _ h => h) (Or.inl ⟨by rfl, ?_⟩) hHeld ?_
    rotate_left
    · (intro w hSw; go_simp; first | done | with_reducible rfl)
    try simp only [Act.put, List.getElem_toArray, List.getElem_cons_zero, List.getElem_cons_succ, List.setIfInBounds_toArray, List.set_cons_zero, List.set_cons_succ]
    refine wpAnyH_take (i := 9) (v := ?_) rfl (by kernel_rfl) (by kernel_rfl) (by kernel_rfl) (fun _ _ _ h => h) (Or.inl ⟨by rfl, ?_⟩) hHeld ?_
    rotate_left
    · (intro w hSw; go_simp; first | done | with_reducible rfl)
    try simp only [Act.put, List.getElem_toArray, List.getElem_cons_zero, List.getElem_cons_succ, List.setIfInBounds_toArray, List.set_cons_zero, List.set_cons_succ]
    refine wpAnyH_take (i := 11) (v := ?_) rfl (by kernel_rfl) (by kernel_rfl) (by kernel_rfl) (fun _ _ _ h => h) (Or.inl ⟨by rfl, ?_⟩) hHeld ?_
    rotate_left
    · (intro w hSw; go_simp; first | done | with_reducible rfl)
    try simp only [Act.put, List.getElem_toArray, List.getElem_cons_zero, List.getElem_cons_succ, List.setIfInBounds_toArray, List.set_cons_zero, List.set_cons_succ]
    refine wpAnyH_take (i := 12) (v := ?_) rfl (by kernel_rfl) (by kernel_rfl) (by kernel_rfl) (fun _ _ _ h => h) (Or.inl ⟨by rfl, ?_⟩) hHeld ?_
    rotate_left
    · (intro w hSw; go_simp; first | done | with_reducible rfl)
    try simp only [Act.put, List.getElem_toArray, List.getElem_cons_zero, List.getElem_cons_succ, List.setIfInBounds_toArray, List.set_cons_zero, List.set_cons_succ]
    refine wpAnyH_ready (rs := [10, 13]) (by kernel_rfl) (by simp) ((AllReadyH.cons rfl (fun K hK => ?_) (AllReadyH.cons rfl (fun K hK => ?_) AllReadyH.nil)))
    · rw [if_pos (by rfl)]
      go_simp; refine (HE3.out _ _ _ (HV2.out.below hHeld) (HVB2.out.below hHeld)).mono ?_; rintro e w10 ⟨rfl, hbc⟩; dsimp only
      refine hK.out _ _ (below_keep hHeld hbc) (fun hHeld2 => ?_)
      clear hK K hHeld
      have hHeld := hHeld2
      clear hHeld2
      try simp only [Act.put, List.getElem_toArray, List.getElem_cons_zero, List.getElem_cons_succ, List.setIfInBounds_toArray, List.set_cons_zero, List.set_cons_succ]
      refine wpAnyH_ready (rs := [13]) (by kernel_rfl) (by simp) ((AllReadyH.cons rfl (fun K hK => ?_) AllReadyH.nil))
      rw [if_pos (by rfl)]
      refine wp_build_s_to (.tmp 42) rfl a2 key.length c2 rfl ?_; intro g13 w13 h13 hg13
      refine hK.out _ _ (hHeld.grown hg13 hHeld.size (fun k hk => by cases hk)) (fun hHeld2 => ?_)
      clear hK K hHeld
      have hHeld := hHeld2
      clear hHeld2
      try simp only [Act.put, List.getElem_toArray, List.getElem_cons_zero, List.getElem_cons_succ, List.setIfInBounds_toArray, List.set_cons_zero, List.set_cons_succ]
      refine wpAnyH_ready (rs := [14]) (by kernel_rfl) (by simp) ((AllReadyH.cons rfl (fun K hK => ?_) AllReadyH.nil))
      rw [if_pos (by rfl)]
      go_simp; refine (HE4.out _ _ _ (HV2.out.below hHeld) (brows_one h13 (HVB2.out.below hHeld))).mono ?_; rintro e w14 ⟨rfl, hbc⟩; dsimp only
      refine hK.out _ _ (below_keep hHeld hbc) (fun hHeld2 => ?_)
      clear hK K hHeld
      have hHeld := hHeld2
      clear hHeld2
      try simp only [Act.put, List.getElem_toArray, List.getElem_cons_zero, List.getElem_cons_succ, List.setIfInBounds_toArray, List.set_cons_zero, List.set_cons_succ]
      refine wpAnyH_take (i := 15) rfl (by kernel_rfl) (by kernel_rfl) (by kernel_rfl) (fun _ _ _ h => h) (yieldsIf_eqNum (by rfl) _ _ rfl s2 s2 rfl rfl true (eqB_self s2)) hHeld ?_
      try simp only [Act.put, List.getElem_toArray, List.getElem_cons_zero, List.getElem_cons_succ, List.setIfInBounds_toArray, List.set_cons_zero, List.set_cons_succ]
      refine wpAnyH_take (i := 16) (v := ?_) rfl (by kernel_rfl) (by kernel_rfl) (by kernel_rfl) (fun _ _ _ h => h) (Or.inl ⟨by rfl, ?_⟩) hHeld ?_
      rotate_left
      · (intro w hSw; go_simp; first | done | with_reducible rfl)
      try simp only [Act.put, List.getElem_toArray, List.getElem_cons_zero, List.getElem_cons_succ, List.setIfInBounds_toArray, List.set_cons_zero, List.set_cons_succ]
      refine wpAnyH_take (i := 17) (v := ?_) rfl (by kernel_rfl) (by kernel_rfl) (by kernel_rfl) (fun _ _ _ h => h) (Or.inl ⟨by rfl, ?_⟩) hHeld ?_
      rotate_left
      · (intro w hSw; go_simp; first | done | with_reducible rfl)
      try simp only [Act.put, List.getElem_toArray, List.getElem_cons_zero, List.getElem_cons_succ, List.setIfInBounds_toArray, List.set_cons_zero, List.set_cons_succ]
      refine wpAnyH_done (by kernel_rfl) (NoPanic.normal ?_) _
      (go_wp2; go_ret; exact ⟨rfl, below_keep HB2.out hHeld⟩)
    · rw [if_pos (by rfl)]
      refine wp_build_s_to (.tmp 42) rfl a2 key.length c2 rfl ?_; intro g13 w13 h13 hg13
      refine hK.out _ _ (hHeld.grown hg13 hHeld.size (fun k hk => by cases hk)) (fun hHeld2 => ?_)
      clear hK K hHeld
      have hHeld := hHeld2
      clear hHeld2
      try simp only [Act.put, List.getElem_toArray, List.getElem_cons_zero, List.getElem_cons_succ, List.setIfInBounds_toArray, List.set_cons_zero, List.set_cons_succ]
      refine wpAnyH_ready (rs := [10]) (by kernel_rfl) (by simp) ((AllReadyH.cons rfl (fun K hK => ?_) AllReadyH.nil))
      rw [if_pos (by rfl)]
      go_simp; refine (HE3.out _ _ _ (HV2.out.below hHeld) (HVB2.out.below hHeld)).mono ?_; rintro e w10 ⟨rfl, hbc⟩; dsimp only
      replace h13 := (hbc.block _ (Array.getElem?_eq_some_iff.1 h13).1).trans h13
      refine hK.out _ _ (below_keep hHeld hbc) (fun hHeld2 => ?_)
      clear hK K hHeld
      have hHeld := hHeld2
      clear hHeld2
      try simp only [Act.put, List.getElem_toArray, List.getElem_cons_zero, List.getElem_cons_succ, List.setIfInBounds_toArray, List.set_cons_zero, List.set_cons_succ]
      refine wpAnyH_ready (rs := [14]) (by kernel_rfl) (by simp) ((AllReadyH.cons rfl (fun K hK => ?_) AllReadyH.nil))
      rw [if_pos (by rfl)]
      go_simp; refine (HE4.out _ _ _ (HV2.out.below hHeld) (brows_one h13 (HVB2.out.below hHeld))).mono ?_; rintro e w14 ⟨rfl, hbc⟩; dsimp only
      refine hK.out _ _ (below_keep hHeld hbc) (fun hHeld2 => ?_)
      clear hK K hHeld
      have hHeld := hHeld2
      clear hHeld2
      try simp only [Act.put, List.getElem_toArray, List.getElem_cons_zero, List.getElem_cons_succ, List.setIfInBounds_toArray, List.set_cons_zero, List.set_cons_succ]
      refine wpAnyH_take (i := 15) rfl (by kernel_rfl) (by kernel_rfl) (by kernel_rfl) (fun _ _ _ h => h) (yieldsIf_eqNum (by rfl) _ _ rfl s2 s2 rfl rfl true (eqB_self s2)) hHeld ?_
      try simp only [Act.put, List.getElem_toArray, List.getElem_cons_zero, List.getElem_cons_succ, List.setIfInBounds_toArray, List.set_cons_zero, List.set_cons_succ]
      refine wpAnyH_take (i := 16) (v := ?_) rfl (by kernel_rfl) (by kernel_rfl) (by kernel_rfl) (fun _ _ _ h => h) (Or.inl ⟨by rfl, ?_⟩) hHeld ?_
      rotate_left
      · (intro w hSw; go_simp; first | done | with_reducible rfl)
      try simp only [Act.put, List.getElem_toArray, List.getElem_cons_zero, List.getElem_cons_succ, List.setIfInBounds_toArray, List.set_cons_zero, List.set_cons_succ]
      refine wpAnyH_take (i := 17) (v := ?_) rfl (by kernel_rfl) (by kernel_rfl) (by kernel_rfl) (fun _ _ _ h => h) (Or.inl ⟨by rfl, ?_⟩) hHeld ?_
      rotate_left
      · (intro w hSw; go_simp; first | done | with_reducible rfl)
      try simp only [Act.put, List.getElem_toArray, List.getElem_cons_zero, List.getElem_cons_succ, List.setIfInBounds_toArray, List.set_cons_zero, List.set_cons_succ]
      refine wpAnyH_done (by kernel_rfl) (NoPanic.normal ?_) _
      (go_wp2; go_ret; exact ⟨rfl, below_keep HB2.out hHeld⟩)
  · rw [if_pos (by rfl)]
    refine wp_make_b_to (.tmp 32) (.tmp 32) rfl n hn9 rfl rfl ?_; intro g3 w3 h3 hg3
    refine hK.out _ _ (hHeld.grown hg3 hHeld.size (fun k hk => by cases hk)) (fun hHeld2 => ?_)
    clear hK K hHeld
    have hHeld := hHeld2
    clear hHeld2
    try simp only [Act.put, List.getElem_toArray, List.getElem_cons_zero, List.getElem_cons_succ, List.setIfInBounds_toArray, List.set_cons_zero, List.set_cons_succ]
    refine wpAnyH_ready (rs := [1]) (by kernel_rfl) (by simp) ((AllReadyH.cons rfl (fun K hK => ?_) AllReadyH.nil))
    rw [if_pos (by rfl)]
    go_simp; refine (HE1.out _ _ _ (HNIL.out _) (HVB2.out.below hHeld)).mono ?_; rintro e w1 ⟨rfl, hbc⟩; dsimp only
    replace h3 := h3.below hbc
    refine hK.out _ _ (below_keep hHeld hbc) (fun hHeld2 => ?_)
    clear hK K hHeld
    have hHeld := hHeld2
    clear hHeld2
    try simp only [Act.put, List.getElem_toArray, List.getElem_cons_zero, List.getElem_cons_succ, List.setIfInBounds_toArray, List.set_cons_zero, List.set_cons_succ]
    refine wpAnyH_ready (rs := [5]) (by kernel_rfl) (by simp) ((AllReadyH.cons rfl (fun K hK => ?_) AllReadyH.nil))
    rw [if_pos (by rfl)]
    go_simp; refine (HE2.out _ _ _ h3 (HVB2.out.below hHeld)).mono ?_; rintro e w5 ⟨rfl, hbc⟩; dsimp only
    refine hK.out _ _ (below_keep hHeld hbc) (fun hHeld2 => ?_)
    clear hK K hHeld
    have hHeld := hHeld2
    clear hHeld2
    try simp only [Act.put, List.getElem_toArray, List.getElem_cons_zero, List.getElem_cons_succ, List.setIfInBounds_toArray, List.set_cons_zero, List.set_cons_succ]
    refine wpAnyH_take (i := 6) rfl (by kernel_rfl) (by kernel_rfl) (by kernel_rfl) (fun _ _ _ h => h) (yieldsIf_eqNum (by rfl) _ _ rfl s1 s1 rfl rfl true (eqB_self s1)) hHeld ?_
    try simp only [Act.put, List.getElem_toArray, List.getElem_cons_zero, List.getElem_cons_succ, List.setIfInBounds_toArray, List.set_cons_zero, List.set_cons_succ]
    refine wpAnyH_take (i := 7) (v := ?_) rfl (by kernel_rfl) (by kernel_rfl) (by kernel_rfl) (fun _ _ _ h => h) (Or.inl ⟨by rfl, ?_⟩) hHeld ?_
    rotate_left
    · (intro w hSw; go_simp; first | done | with_reducible rfl)
    try simp only [Act.put, List.getElem_toArray, List.getElem_cons_zero, List.getElem_cons_succ, List.setIfInBounds_toArray, List.set_cons_zero, List.set_cons_succ]
    refine wpAnyH_take (i := 8) (v := ?_) rfl (by kernel_rfl) (by kernel_rfl) (by kernel_rfl) (fun _ _ _ h => h) (Or.inl ⟨by rfl, ?_⟩) hHeld ?_
    rotate_left
    · (intro w hSw; go_simp; first | done | with_reducible rfl)
    try simp only [Act.put, List.getElem_toArray, List.getElem_cons_zero, List.getElem_cons_succ, List.setIfInBounds_toArray, List.set_cons_zero, List.set_cons_succ]
    refine wpAnyH_take (i := 9) (v := ?_) rfl (by kernel_rfl) (by kernel_rfl) (by kernel_rfl) (fun _ _ _ h => h) (Or.inl ⟨by rfl, ?_⟩) hHeld ?_
    rotate_left
    · (intro w hSw; go_simp; first | done | with_reducible rfl)
    try simp only [Act.put, List.getElem_toArray, List.getElem_cons_zero, List.getElem_cons_succ, List.setIfInBounds_toArray, List.set_cons_zero, List.set_cons_succ]
    refine wpAnyH_take (i := 11) (v := ?_) rfl (by kernel_rfl) (by kernel_rfl) (by kernel_rfl) (fun _ _ _ h => h) (Or.inl ⟨by rfl, ?_⟩) hHeld ?_
    rotate_left
    · (intro w hSw; go_simp; first | done | with_reducible rfl)
    try simp only [Act.put, List.getElem_toArray, List.getElem_cons_zero, List.getElem_cons_succ, List.setIfInBounds_toArray, List.set_cons_zero, List.set_cons_succ]
    refine wpAnyH_take (i := 12) (v := ?_) rfl (by kernel_rfl) (by kernel_rfl) (by kernel_rfl) (fun _ _ _ h => h) (Or.inl ⟨by rfl, ?_⟩) hHeld ?_
    rotate_left
    · (intro w hSw; go_simp; first | done | with_reducible rfl)
    try simp only [Act.put, List.getElem_toArray, List.getElem_cons_zero, List.getElem_cons_succ, List.setIfInBounds_toArray, List.set_cons_zero, List.set_cons_succ]
    refine wpAnyH_ready (rs := [10, 13]) (by kernel_rfl) (by simp) ((AllReadyH.cons rfl (fun K hK => ?_) (AllReadyH.cons rfl (fun K hK => ?_) AllReadyH.nil)))
    · rw [if_pos (by rfl)]
      go_simp; refine (HE3.out _ _ _ (HV2.out.below hHeld) (HVB2.out.below hHeld)).mono ?_; rintro e w10 ⟨rfl, hbc⟩; dsimp only
      refine hK.out _ _ (below_keep hHeld hbc) (fun hHeld2 => ?_)
      clear hK K hHeld
      have hHeld := hHeld2
      clear hHeld2
      try simp only [Act.put, List.getElem_toArray, List.getElem_cons_zero, List.getElem_cons_succ, List.setIfInBounds_toArray, List.set_cons_zero, List.set_cons_succ]
      refine wpAnyH_ready (rs := [13]) (by kernel_rfl) (by simp) ((AllReadyH.cons rfl (fun K hK => ?_) AllReadyH.nil))
      rw [if_pos (by rfl)]
      refine wp_build_s_to (.tmp 42) rfl a2 key.length c2 rfl ?_; intro g13 w13 h13 hg13
      refine hK.out _ _ (hHeld.grown hg13 hHeld.size (fun k hk => by cases hk)) (fun hHeld2 => ?_)
      clear hK K hHeld
      have hHeld := hHeld2
      clear hHeld2
      try simp only [Act.put, List.getElem_toArray, List.getElem_cons_zero, List.getElem_cons_succ, List.setIfInBounds_toArray, List.set_cons_zero, List.set_cons_succ]
      refine wpAnyH_ready (rs := [14]) (by kernel_rfl) (by simp) ((AllReadyH.cons rfl (fun K hK => ?_) AllReadyH.nil))
      rw [if_pos (by rfl)]
      go_simp; refine (HE4.out _ _ _ (HV2.out.below hHeld) (brows_one h13 (HVB2.out.below hHeld))).mono ?_; rintro e w14 ⟨rfl, hbc⟩; dsimp only
      refine hK.out _ _ (below_keep hHeld hbc) (fun hHeld2 => ?_)
      clear hK K hHeld
      have hHeld := hHeld2
      clear hHeld2
      try simp only [Act.put, List.getElem_toArray, List.getElem_cons_zero, List.getElem_cons_succ, List.setIfInBounds_toArray, List.set_cons_zero, List.set_cons_succ]
      refine wpAnyH_take (i := 15) rfl (by kernel_rfl) (by kernel_rfl) (by kernel_rfl) (fun _ _ _ h => h) (yieldsIf_eqNum (by rfl) _ _ rfl s2 s2 rfl rfl true (eqB_self s2)) hHeld ?_
      try simp only [Act.put, List.getElem_toArray, List.getElem_cons_zero, List.getElem_cons_succ, List.setIfInBounds_toArray, List.set_cons_zero, List.set_cons_succ]
      refine wpAnyH_take (i := 16) (v := ?_) rfl (by kernel_rfl) (by kernel_rfl) (by kernel_rfl) (fun _ _ _ h => h) (Or.inl ⟨by rfl, ?_⟩) hHeld ?_
      rotate_left
      · (intro w hSw; go_simp; first | done | with_reducible rfl)
      try simp only [Act.put, List.getElem_toArray, List.getElem_cons_zero, List.getElem_cons_succ, List.setIfInBounds_toArray, List.set_cons_zero, List.set_cons_succ]
      refine wpAnyH_take (i := 17) (v := ?_) rfl (by kernel_rfl) (by kernel_rfl) (by kernel_rfl) (fun _ _ _ h => h) (Or.inl ⟨by rfl, ?_⟩) hHeld ?_
      rotate_left
      · (intro w hSw; go_simp; first | done | with_reducible rfl)
      try simp only [Act.put, List.getElem_toArray, List.getElem_cons_zero, List.getElem_cons_succ, List.setIfInBounds_toArray, List.set_cons_zero, List.set_cons_succ]
      refine wpAnyH_done (by kernel_rfl) (NoPanic.normal ?_) _
      (go_wp2; go_ret; exact ⟨rfl, below_keep HB2.out hHeld⟩)
    · rw [if_pos (by rfl)]
      refine wp_build_s_to (.tmp 42) rfl a2 key.length c2 rfl ?_; intro g13 w13 h13 hg13
      refine hK.out _ _ (hHeld.grown hg13 hHeld.size (fun k hk => by cases hk)) (fun hHeld2 => ?_)
      clear hK K hHeld
      have hHeld := hHeld2
      clear hHeld2
      try simp only [Act.put, List.getElem_toArray, List.getElem_cons_zero, List.getElem_cons_succ, List.setIfInBounds_toArray, List.set_cons_zero, List.set_cons_succ]
      refine wpAnyH_ready (rs := [10]) (by kernel_rfl) (by simp) ((AllReadyH.cons rfl (fun K hK => ?_) AllReadyH.nil))
      rw [if_pos (by rfl)]
      go_simp; refine (HE3.out _ _ _ (HV2.out.below hHeld) (HVB2.out.below hHeld)).mono ?_; rintro e w10 ⟨rfl, hbc⟩; dsimp only
      replace h13 := (hbc.block _ (Array.getElem?_eq_some_iff.1 h13).1).trans h13
      refine hK.out _ _ (below_keep hHeld hbc) (fun hHeld2 => ?_)
      clear hK K hHeld
      have hHeld := hHeld2
      clear hHeld2
      try simp only [Act.put, List.getElem_toArray, List.getElem_cons_zero, List.getElem_cons_succ, List.setIfInBounds_toArray, List.set_cons_zero, List.set_cons_succ]
      refine wpAnyH_ready (rs := [14]) (by kernel_rfl) (by simp) ((AllReadyH.cons rfl (fun K hK => ?_) AllReadyH.nil))
      rw [if_pos (by rfl)]
      go_simp; refine (HE4.out _ _ _ (HV2.out.below hHeld) (brows_one h13 (HVB2.out.below hHeld))).mono ?_; rintro e w14 ⟨rfl, hbc⟩; dsimp only
      refine hK.out _ _ (below_keep hHeld hbc) (fun hHeld2 => ?_)
      clear hK K hHeld
      have hHeld := hHeld2
      clear hHeld2
      try simp only [Act.put, List.getElem_toArray, List.getElem_cons_zero, List.getElem_cons_succ, List.setIfInBounds_toArray, List.set_cons_zero, List.set_cons_succ]
      refine wpAnyH_take (i := 15) rfl (by kernel_rfl) (by kernel_rfl) (by kernel_rfl) (fun _ _ _ h => h) (yieldsIf_eqNum (by rfl) _ _ rfl s2 s2 rfl rfl true (eqB_self s2)) hHeld ?_
      try simp only [Act.put, List.getElem_toArray, List.getElem_cons_zero, List.getElem_cons_succ, List.setIfInBounds_toArray, List.set_cons_zero, List.set_cons_succ]
      refine wpAnyH_take (i := 16) (v := ?_) rfl (by kernel_rfl) (by kernel_rfl) (by kernel_rfl) (fun _ _ _ h => h) (Or.inl ⟨by rfl, ?_⟩) hHeld ?_
      rotate_left
      · (intro w hSw; go_simp; first | done | with_reducible rfl)
      try simp only [Act.put, List.getElem_toArray, List.getElem_cons_zero, List.getElem_cons_succ, List.setIfInBounds_toArray, List.set_cons_zero, List.set_cons_succ]
      refine wpAnyH_take (i := 17) (v := ?_) rfl (by kernel_rfl) (by kernel_rfl) (by kernel_rfl) (fun _ _ _ h => h) (Or.inl ⟨by rfl, ?_⟩) hHeld ?_
      rotate_left
      · (intro w hSw; go_simp; first | done | with_reducible rfl)
      try simp only [Act.put, List.getElem_toArray, List.getElem_cons_zero, List.getElem_cons_succ, List.setIfInBounds_toArray, List.set_cons_zero, List.set_cons_succ]
      refine wpAnyH_done (by kernel_rfl) (NoPanic.normal ?_) _
      (go_wp2; go_ret; exact ⟨rfl, below_keep HB2.out hHeld⟩)

set_option maxHeartbeats 1000000 in
theorem deriveSalts_out (a a2 : Option Addr) (k c k2 c2 : Nat) (n : Int) (w : World) (h : 300 < k ∨ 500 < k2 ∨ n < 0 ∨ 64 < n) (hka : KAt w) :
    Calls Tryd.prog 17 #[.slice a k c, .slice a2 k2 c2, .int .i64 n] w fun e w' => e = .returned (.bool true) ∧ Below w.heap.size w w' := by
  have HKA := Lib.hid hka
  clear hka
  by_cases h1 : 300 < k
  · have hz1 : ((300 : Int) < (k : Int)) = True := eq_true (by omega)
    clear h h1
    go_enter Tryd.func17, Tryd.ntmps17
    go_wp2_with (go_at_call 34; refine (alive8_any _ HKA.out).mono ?_; rintro e w2 ⟨rfl, hb2⟩)
    go_ret
    exact ⟨rfl, hb2⟩
  · have hz1 : ((300 : Int) < (k : Int)) = False := eq_false (by omega)
    by_cases h2 : 500 < k2
    · have hz2 : ((500 : Int) < (k2 : Int)) = True := eq_true (by omega)
      clear h h1 h2
      go_enter Tryd.func17, Tryd.ntmps17
      go_wp2_with (go_at_call 34; refine (alive8_any _ HKA.out).mono ?_; rintro e w2 ⟨rfl, hb2⟩)
      go_ret
      exact ⟨rfl, hb2⟩
    · have hz2 : ((500 : Int) < (k2 : Int)) = False := eq_false (by omega)
      by_cases h3 : n < 0
      · clear h h1 h2
        go_enter Tryd.func17, Tryd.ntmps17
        go_wp2_with (go_at_call 34; refine (alive8_any _ HKA.out).mono ?_; rintro e w2 ⟨rfl, hb2⟩)
        go_ret
        exact ⟨rfl, hb2⟩
      · have h4 : 64 < n := by omega
        clear h h1 h2
        go_enter Tryd.func17, Tryd.ntmps17
        go_wp2_with (go_at_call 34; refine (alive8_any _ HKA.out).mono ?_; rintro e w2 ⟨rfl, hb2⟩)
        go_ret
        exact ⟨rfl, hb2⟩
theorem deriveSalts_walk {w : World} (v : Value) (salt : List (BitVec 8)) (hv : BRow w v salt) (_hq : salt.length ≤ maxLen ∧ CapOk v) (vb : Value) (key : List (BitVec 8)) (hvb : BRow w vb key) (_hq2 : key.length ≤ maxLen ∧ CapOk vb) (n : Int) (_hn : -9223372036854775808 ≤ n ∧ n ≤ 9223372036854775807) (hk : KAt w) :
    Calls Tryd.prog 17 #[v, vb, .int .i64 n] w fun e w' => e = .returned (.bool true) ∧ Below w.heap.size w w' := by
  obtain ⟨a, c, rfl⟩ := hv.shape
  obtain ⟨a2, c2, rfl⟩ := hvb.shape
  by_cases h : 300 < salt.length ∨ 500 < key.length ∨ n < 0 ∨ 64 < n
  · exact deriveSalts_out a a2 _ c _ c2 n w h hk
  · have := deriveSalts_in a a2 c c2 salt key n.toNat w hv hvb (by omega) (by omega) (by omega) hk
    rw [show ((n.toNat : Nat) : Int) = n by omega] at this
    exact this

end Go.Proofs.YtnnllficjljjkaaDoor
