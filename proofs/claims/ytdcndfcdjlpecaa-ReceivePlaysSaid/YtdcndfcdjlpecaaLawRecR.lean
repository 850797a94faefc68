/-
  The walk of the law ReceivePlays: great numbers.
-/
import Derived.Test.YtdcndfcdjlpecaaLawRecP
namespace Go.Proofs.Ytdcndfcdjlpecaa
open Go.RowKit
set_option linter.unusedVariables false
set_option linter.unusedSimpArgs false

set_option maxRecDepth 100000 in
set_option maxHeartbeats 4000000 in
theorem receivePlays_high (a a2 : Option Addr) (c c2 : Nat) (l : List Int) (dl : List Bool) (n : Int) (w : World) (hv : IRow w (.slice a l.length c) l) (hvb : LRow w (.slice a2 dl.length c2) dl) (hl : l.length ≤ 200) (hd : l.length ≤ dl.length) (hn : 1048576 ≤ n) :
    Calls Try.prog 8 #[.int .i64 n, .slice a l.length c, .slice a2 dl.length c2] w fun e w' => e = .returned (.bool true) ∧ Below w.heap.size w w' := by
  obtain ⟨L, hL⟩ : ∃ L, L = l.length := ⟨_, rfl⟩
  obtain ⟨D, hD⟩ : ∃ D, D = dl.length := ⟨_, rfl⟩
  have HLL := Lib.hid hL
  have HDD := Lib.hid hD
  rw [← hL] at hv hl hd ⊢
  rw [← hD] at hvb hd ⊢
  have hn0 : 5000 < n := by omega
  have hz1 : ((200 : Int) < (L : Int)) = False := eq_false (by omega)
  have hz2 : ¬ ((D : Int) < (L : Int)) := by omega
  have hL2 : (L : Int) ≤ 200 := by omega
  have HV := Lib.hid hv
  have HVB := Lib.hid hvb
  have HLD := Lib.hid hd
  obtain ⟨N, hN⟩ : ∃ N, N = clampN n := ⟨_, rfl⟩
  have HN4 := Lib.hid (show N ≤ 4096 by rw [hN]; exact clampN_le n)
  have HNW := Lib.hid (show ∀ w, Calls Try.prog 17 #[.int .i64 n] w fun e w' => ∃ g gw, e = .returned (.pointer (some ⟨g, 0, none⟩)) ∧ SetAt w' g gw N (fun _ => 0) ∧ w.heap.size ≤ g ∧ w.heap.size ≤ gw ∧ Below w.heap.size w w' from fun w => by
    have := new_any n w
    rw [← hN] at this
    exact this)
  have HNR := Lib.hid (show ∀ w, Calls Try.prog 22 #[.int .i64 n] w fun e w' => ∃ g gw, e = .returned (.pointer (some ⟨g, 0, none⟩)) ∧ RSetAt w' g gw N (fun _ => false) ∧ w.heap.size ≤ g ∧ w.heap.size ≤ gw ∧ Below w.heap.size w w' from fun w => by
    have := newSet_any n w
    rw [← hN] at this
    exact this)
  clear hv hvb hl hd hL hD hN
  go_enter Try.func8, Try.ntmps8
  go_wp2_with (first
    | (go_at_call 16; refine (alive23_any _).mono ?_; rintro e w1 ⟨rfl, hb1⟩)
    | (go_at_call 17; refine (HNW.out w1).mono ?_; rintro e w2 ⟨g, gw, rfl, hs2, hg1, hg2, hb2⟩)
    | (go_at_call 17; refine (HNW.out w2).mono ?_; rintro e w3 ⟨g2, gw2, rfl, hs3, hg3, hg4, hb3⟩)
    | (go_at_call 22; refine (HNR.out w3).mono ?_; rintro e w4 ⟨g3, gw3, rfl, hs4, hg5, hg6, hb4⟩))
  have hl2 := (Array.getElem?_eq_some_iff.1 hs2.hs).1
  have hl2w := (Array.getElem?_eq_some_iff.1 hs2.hw).1
  have hl3 := (Array.getElem?_eq_some_iff.1 hs3.hs).1
  have hl3w := (Array.getElem?_eq_some_iff.1 hs3.hw).1
  have hsz1 := hb1.size
  have hsz2 := hb2.size
  have hsz3 := hb3.size
  have HB4 := Lib.hid (((hb1.trans (hb2.mono hb1.size)).trans (hb3.mono (by omega))).trans (hb4.mono (by omega)))
  have HS4 := Lib.hid ((hs2.below hb3).below hb4)
  have HO4 := Lib.hid (hs3.below hb4)
  have HR4 := Lib.hid hs4
  have d1 : g ≠ gw2 := by omega
  have d2 : gw ≠ gw2 := by omega
  have d3 : g ≠ gw3 := by omega
  have d4 : gw ≠ gw3 := by omega
  have d5 : g2 ≠ gw3 := by omega
  have d6 : gw2 ≠ gw3 := by omega
  have d7 : g2 ≠ gw := by omega
  have d8 : gw2 ≠ gw := by omega
  have d9 : g3 ≠ gw := by omega
  have d10 : g3 ≠ gw2 := by omega
  have b1 : w.heap.size ≤ gw := by omega
  have b2 : w.heap.size ≤ gw2 := by omega
  have b3 : w.heap.size ≤ gw3 := by omega
  have hvw : ∀ wr, Below w.heap.size w wr → IRow wr (.slice a L c) l := fun wr hb => HV.out.below hb
  have HVW := Lib.hid hvw
  have hvw2 : ∀ wr, Below w.heap.size w wr → LRow wr (.slice a2 D c2) dl := fun wr hb => HVB.out.below hb
  have HVW2 := Lib.hid hvw2
  have HI0 := Lib.hid (show InvS N (fun _ => 0) from fun i _ => bitv_zero i)
  have HE0 := Lib.hid (show SameS N (fun _ => 0) (fun _ => false) from fun i _ => bitv_zero i)
  clear hvw hvw2 hb1 hb2 hb3 hb4 hs2 hs3 hs4 hg1 hg2 hg3 hg4 hg5 hg6 hl2 hl2w hl3 hl3w hsz1 hsz2 hsz3
  have HDS := Lib.hid (show (g ≠ gw2 ∧ gw ≠ gw2 ∧ g ≠ gw3 ∧ gw ≠ gw3 ∧ g2 ≠ gw3 ∧ gw2 ≠ gw3) ∧ (g2 ≠ gw ∧ gw2 ≠ gw ∧ g3 ≠ gw ∧ g3 ≠ gw2) ∧ w.heap.size ≤ gw ∧ w.heap.size ≤ gw2 ∧ w.heap.size ≤ gw3 from ⟨⟨d1, d2, d3, d4, d5, d6⟩, ⟨d7, d8, d9, d10⟩, b1, b2, b3⟩)
  clear d1 d2 d3 d4 d5 d6 d7 d8 d9 d10 b1 b2 b3
  go_loopw [11] (fun i wr => ∃ (k : Nat) (x y : Nat → BitVec 64) (b : Nat → Bool), k ≤ L ∧ i = .int .i64 k ∧ SetAt wr g gw N x ∧ SetAt wr g2 gw2 N y ∧ RSetAt wr g3 gw3 N b ∧ InvS N x ∧ SameS N x b ∧ Below w.heap.size w wr) (fun i _ => L - (intOf i).toNat)
  case atStart => exact ⟨0, fun _ => 0, fun _ => 0, fun _ => false, Nat.zero_le _, rfl, HS4.out, HO4.out, HR4.out, HI0.out, HE0.out, HB4.out⟩
  case round =>
    clear HS4 HO4 HR4 HB4 HI0 HE0
    obtain ⟨k, x, y, b, hk, rfl, hs, ho, hr, hinv, hsame, hb⟩ := hrel
    have HS := Lib.hid hs
    have HO := Lib.hid ho
    have HR := Lib.hid hr
    have HB := Lib.hid hb
    have HI := Lib.hid hinv
    have HE := Lib.hid hsame
    clear hs ho hr hb hinv hsame
    have hk0 : (0 : Int) ≤ (k : Int) := by omega
    by_cases hlt : k < L
    · have hk1 : (k : Int) < (L : Int) := by omega
      have hk2 : (k : Int) < (D : Int) := by have := HLD.out; omega
      have hk3 : (k : Int) < 200 := by omega
      have hkl : k < l.length := by rw [← HLL.out]; exact hlt
      have hkd : k < dl.length := by rw [← HDD.out]; have := HLD.out; omega
      obtain ⟨b0, off, rfl, hbl, hc⟩ := (HVW.out w (Below.refl _ _)).at (by omega)
      obtain ⟨b1, off1, rfl, hbl1, hc1⟩ := (HVW2.out w (Below.refl _ _)).at (by omega)
      have hcc := hc k hkl
      have hcd := hc1 k hkd
      obtain ⟨z, hz⟩ : ∃ z, z = l[k]'hkl := ⟨_, rfl⟩
      obtain ⟨d, hdd⟩ : ∃ d, d = dl[k]'hkd := ⟨_, rfl⟩
      rw [← hz] at hcc
      rw [← hdd] at hcd
      clear hc hc1 hz hdd hkl hkd
      have hcW : ∀ W, Below w.heap.size w W → W.cell? ⟨b0, off + k, none⟩ = some (.int .i64 z) := fun W hW => (hW.cell (p := ⟨b0, off + k, none⟩) hbl).trans hcc
      have hdW : ∀ W, Below w.heap.size w W → W.cell? ⟨b1, off1 + k, none⟩ = some (.bool d) := fun W hW => (hW.cell (p := ⟨b1, off1 + k, none⟩) hbl1).trans hcd
      have HCW := Lib.hid hcW
      have HDW := Lib.hid hdW
      have hcr := hcW wr HB.out
      clear hcW hdW hcc hcd hbl hbl1
      cases d with
      | true =>
        obtain ⟨p, hp⟩ : ∃ p, p = putB N x z false := ⟨_, rfl⟩
        obtain ⟨x1, hx1⟩ : ∃ x1, x1 = putX N x z false := ⟨_, rfl⟩
        obtain ⟨bb, hbb⟩ : ∃ bb, bb = rputX N b z false := ⟨_, rfl⟩
        have hI1 := invS_step HI.out z false
        have hE1 := sameS_step HE.out z false
        rw [← hx1] at hI1
        rw [← hx1, ← hbb] at hE1
        have HI1 := Lib.hid hI1
        have HE1 := Lib.hid hE1
        obtain ⟨q, hq⟩ : ∃ q, q = hasF N x1 z := ⟨_, rfl⟩
        have HPS := Lib.hid (show ∀ w, SetAt w g gw N x → Calls Try.prog 23 #[.pointer (some ⟨g, 0, none⟩), .int .i64 z] w fun e w' => e = .returned (.bool p) ∧ SetAt w' g gw N x1 ∧ w.grownBy w' (some gw) from fun w h => by
          rw [hp, hx1]; exact dropc_any g gw N z x w h HN4.out)
        have HTU := Lib.hid (show ∀ w, RSetAt w g3 gw3 N b → Calls Try.prog 24 #[.pointer (some ⟨g3, 0, none⟩), .int .i64 z, .bool false] w fun e w' => e = .returned (.bool p) ∧ RSetAt w' g3 gw3 N bb ∧ w.grownBy w' (some gw3) from fun w h => by
          rw [hp, sameS_put HE.out, hbb]; exact rturn_any g3 gw3 N z b false w h)
        have HHS := Lib.hid (show ∀ w, SetAt w g gw N x1 → Calls Try.prog 18 #[.pointer (some ⟨g, 0, none⟩), .int .i64 z] w fun e w' => e = .returned (.bool q) ∧ w = w' from fun w h => by
          rw [hq]; exact has_any g gw N z x1 w h HN4.out)
        have HHR := Lib.hid (show ∀ w, RSetAt w g3 gw3 N bb → Calls Try.prog 25 #[.pointer (some ⟨g3, 0, none⟩), .int .i64 z] w fun e w' => e = .returned (.bool q) ∧ w = w' from fun w h => by
          rw [hq, sameS_has hE1]; exact rhas_any g3 gw3 N z bb w h)
        clear hI1 hE1 hp hx1 hbb hq
        have hcr2 := HDW.out wr HB.out
        go_wp2_with (first
          | (go_at_call 19; refine (putc_any g2 gw2 N _ y wr HO.out HN4.out).mono ?_; rintro e w5 ⟨rfl, ho5, hgr5⟩; have HB5 := Lib.hid (HB.out.grown hgr5 HB.out.size (fun k hk => by cases hk; exact HDS.out.2.2.2.1)); have HO5 := Lib.hid ho5; have HS5 := Lib.hid (HS.out.grown hgr5 HDS.out.1.1 HDS.out.1.2.1); have HR5 := Lib.hid (HR.out.grown hgr5 HDS.out.2.1.2.2.2 (Ne.symm HDS.out.1.2.2.2.2.2)); have hcr5 := HCW.out w5 HB5.out; have hcd5 := HDW.out w5 HB5.out; clear ho5 hgr5)
          | (go_at_call 23; refine (HPS.out w5 HS5.out).mono ?_; rintro e w6 ⟨rfl, hs6, hgr6⟩; have HB6 := Lib.hid (HB5.out.grown hgr6 HB5.out.size (fun k hk => by cases hk; exact HDS.out.2.2.1)); have HS6 := Lib.hid hs6; have HO6 := Lib.hid (HO5.out.grown hgr6 HDS.out.2.1.1 HDS.out.2.1.2.1); have HR6 := Lib.hid (HR5.out.grown hgr6 HDS.out.2.1.2.2.1 (Ne.symm HDS.out.1.2.2.2.1)); clear hs6 hgr6))
        clear hcr hcr2 hcr5 hcd5
        have hcS : ∀ w', w6.grownBy w' (some gw3) → w'.cell? ⟨b0, off + k, none⟩ = some (.int .i64 z) := fun w' hg => HCW.out w' (HB6.out.grown hg HB6.out.size (fun k hk => by cases hk; exact HDS.out.2.2.2.2))
        have hdS : ∀ w', w6.grownBy w' (some gw3) → w'.cell? ⟨b1, off1 + k, none⟩ = some (.bool true) := fun w' hg => HDW.out w' (HB6.out.grown hg HB6.out.size (fun k hk => by cases hk; exact HDS.out.2.2.2.2))
        refine wp_region_plan (S := fun w' => w6.grownBy w' (some gw3)) [0, 1, 2, 3, 4, 5, 6, 7, 8, 9, 10, 11, 12, 13, 14, 15, 16, 17, 18, 20, 21, 22, 23, 24, 19, 25, 26, 27] [true, true, true, true, true, true, true, true, true, true, true, false, true, true, true, true, true, true, true, true, true, true, true, true, false, false, true, true] (by kernel_rfl) (by kernel_rfl) (grown_drew (grown_refl _ _)) (fun _ => ?_)
        simp only [List.filterMap_cons, List.filterMap_nil, List.getElem?_toArray, List.getElem?_cons_zero, List.getElem?_cons_succ]
        refine seqH_take (v := ?_) (Or.inl ⟨by rfl, ?_⟩) ?_
        rotate_left
        · (intro w hSw; go_simp; first | done | with_reducible rfl)
        try simp only [Act.put, List.setIfInBounds_toArray, List.set_cons_zero, List.set_cons_succ]
        refine seqH_take (v := ?_) (Or.inl ⟨by rfl, ?_⟩) ?_
        rotate_left
        · (intro w hSw; go_simp; first | done | with_reducible rfl)
        try simp only [Act.put, List.setIfInBounds_toArray, List.set_cons_zero, List.set_cons_succ]
        refine seqH_take (v := ?_) (Or.inl ⟨by rfl, ?_⟩) ?_
        rotate_left
        · (intro w hSw; go_simp; first | done | with_reducible rfl)
        try simp only [Act.put, List.setIfInBounds_toArray, List.set_cons_zero, List.set_cons_succ]
        refine seqH_take (v := ?_) (Or.inl ⟨by rfl, ?_⟩) ?_
        rotate_left
        · (intro w hSw; go_simp; first | done | with_reducible rfl)
        try simp only [Act.put, List.setIfInBounds_toArray, List.set_cons_zero, List.set_cons_succ]
        refine seqH_take (v := ?_) (Or.inl ⟨by rfl, ?_⟩) ?_
        rotate_left
        · (intro w hSw; go_simp; first | done | with_reducible rfl)
        try simp only [Act.put, List.setIfInBounds_toArray, List.set_cons_zero, List.set_cons_succ]
        refine seqH_take (v := ?_) (Or.inl ⟨by rfl, ?_⟩) ?_
        rotate_left
        · (intro w hSw; go_simp; first | done | with_reducible rfl)
        try simp only [Act.put, List.setIfInBounds_toArray, List.set_cons_zero, List.set_cons_succ]
        refine seqH_take (v := ?_) (Or.inl ⟨by rfl, ?_⟩) ?_
        rotate_left
        · (intro w hSw; go_simp; first | done | with_reducible rfl)
        try simp only [Act.put, List.setIfInBounds_toArray, List.set_cons_zero, List.set_cons_succ]
        refine seqH_take (v := ?_) (Or.inl ⟨by rfl, ?_⟩) ?_
        rotate_left
        · (intro w hSw; go_simp; first | done | with_reducible rfl)
        try simp only [Act.put, List.setIfInBounds_toArray, List.set_cons_zero, List.set_cons_succ]
        refine seqH_take (v := ?_) (Or.inl ⟨by rfl, ?_⟩) ?_
        rotate_left
        · (intro w hSw; go_simp; first | done | with_reducible rfl)
        try simp only [Act.put, List.setIfInBounds_toArray, List.set_cons_zero, List.set_cons_succ]
        refine seqH_take (v := ?_) (Or.inl ⟨by rfl, ?_⟩) ?_
        rotate_left
        · (intro w hSw; go_simp; first | done | with_reducible rfl)
        try simp only [Act.put, List.setIfInBounds_toArray, List.set_cons_zero, List.set_cons_succ]
        refine seqH_take (v := ?_) (Or.inl ⟨by rfl, ?_⟩) ?_
        rotate_left
        · (intro w hSw; go_simp; first | done | with_reducible rfl)
        try simp only [Act.put, List.setIfInBounds_toArray, List.set_cons_zero, List.set_cons_succ]
        refine seqH_go (fun K hK => ?_)
        rw [if_pos (by rfl)]
        go_simp
        refine (HTU.out w6.drew ⟨HR6.out.hs, HR6.out.hw, HR6.out.ne⟩).mono ?_; rintro e w7 ⟨rfl, hr7, hgr7⟩; have hg67 : w6.grownBy w7 (some gw3) := grown_trans (grown_drew (grown_refl _ _)) hgr7
        try dsimp only
        refine hK.out _ _ (hg67) (fun _ => ?_)
        clear hK K
        try simp only [Act.put, List.setIfInBounds_toArray, List.set_cons_zero, List.set_cons_succ]
        refine seqH_take (v := ?_) (Or.inl ⟨by rfl, ?_⟩) ?_
        rotate_left
        · (intro w hSw; go_simp; first | done | with_reducible rfl)
        try simp only [Act.put, List.setIfInBounds_toArray, List.set_cons_zero, List.set_cons_succ]
        refine seqH_take (v := ?_) (Or.inl ⟨by rfl, ?_⟩) ?_
        rotate_left
        · (intro w hSw; go_simp; first | done | with_reducible rfl)
        try simp only [Act.put, List.setIfInBounds_toArray, List.set_cons_zero, List.set_cons_succ]
        refine seqH_take (v := ?_) (Or.inl ⟨by rfl, ?_⟩) ?_
        rotate_left
        · (intro w hSw; go_simp; first | done | with_reducible rfl)
        try simp only [Act.put, List.setIfInBounds_toArray, List.set_cons_zero, List.set_cons_succ]
        refine seqH_take (v := ?_) (Or.inl ⟨by rfl, ?_⟩) ?_
        rotate_left
        · (intro w hSw; go_simp; first | done | with_reducible rfl)
        try simp only [Act.put, List.setIfInBounds_toArray, List.set_cons_zero, List.set_cons_succ]
        refine seqH_take (v := ?_) (Or.inl ⟨by rfl, ?_⟩) ?_
        rotate_left
        · (intro w hSw; go_simp; first | done | with_reducible rfl)
        try simp only [Act.put, List.setIfInBounds_toArray, List.set_cons_zero, List.set_cons_succ]
        refine seqH_take (v := ?_) (Or.inl ⟨by rfl, ?_⟩) ?_
        rotate_left
        · (intro w hSw; go_simp; first | done | with_reducible rfl)
        try simp only [Act.put, List.setIfInBounds_toArray, List.set_cons_zero, List.set_cons_succ]
        refine seqH_take (v := ?_) (Or.inl ⟨by rfl, ?_⟩) ?_
        rotate_left
        · (intro w hSw; go_simp; first | done | with_reducible rfl)
        try simp only [Act.put, List.setIfInBounds_toArray, List.set_cons_zero, List.set_cons_succ]
        refine seqH_take (v := ?_) (Or.inl ⟨by rfl, ?_⟩) ?_
        rotate_left
        · (intro w hSw; go_simp; first | done | with_reducible rfl)
        try simp only [Act.put, List.setIfInBounds_toArray, List.set_cons_zero, List.set_cons_succ]
        refine seqH_take (v := ?_) (Or.inl ⟨by rfl, ?_⟩) ?_
        rotate_left
        · (intro w hSw; go_simp; first | done | with_reducible rfl)
        try simp only [Act.put, List.setIfInBounds_toArray, List.set_cons_zero, List.set_cons_succ]
        refine seqH_take (v := ?_) (Or.inl ⟨by rfl, ?_⟩) ?_
        rotate_left
        · (intro w hSw; go_simp; first | done | with_reducible rfl)
        try simp only [Act.put, List.setIfInBounds_toArray, List.set_cons_zero, List.set_cons_succ]
        refine seqH_take (v := ?_) (Or.inl ⟨by rfl, ?_⟩) ?_
        rotate_left
        · (intro w hSw; go_simp; first | done | with_reducible rfl)
        try simp only [Act.put, List.setIfInBounds_toArray, List.set_cons_zero, List.set_cons_succ]
        refine seqH_take (v := ?_) (Or.inl ⟨by rfl, ?_⟩) ?_
        rotate_left
        · (intro w hSw; go_simp; first | done | with_reducible rfl)
        try simp only [Act.put, List.setIfInBounds_toArray, List.set_cons_zero, List.set_cons_succ]
        refine seqH_go (fun K hK => ?_)
        rw [if_pos (by rfl)]
        go_simp
        refine (HHS.out _ (HS6.out.grown hg67 HDS.out.1.2.2.1 HDS.out.1.2.2.2.1)).mono ?_; rintro e w8 ⟨rfl, rfl⟩
        try dsimp only
        refine hK.out _ _ (hg67) (fun _ => ?_)
        clear hK K
        try simp only [Act.put, List.setIfInBounds_toArray, List.set_cons_zero, List.set_cons_succ]
        refine seqH_go (fun K hK => ?_)
        rw [if_pos (by rfl)]
        go_simp
        refine (HHR.out _ hr7).mono ?_; rintro e w9 ⟨rfl, rfl⟩
        try dsimp only
        refine hK.out _ _ (hg67) (fun _ => ?_)
        clear hK K
        try simp only [Act.put, List.setIfInBounds_toArray, List.set_cons_zero, List.set_cons_succ]
        refine seqH_take (v := ?_) (Or.inl ⟨by rfl, ?_⟩) ?_
        rotate_left
        · (intro w hSw; go_simp; first | done | with_reducible rfl)
        try simp only [Act.put, List.setIfInBounds_toArray, List.set_cons_zero, List.set_cons_succ]
        refine seqH_take (v := ?_) (Or.inl ⟨by rfl, ?_⟩) ?_
        rotate_left
        · (intro w hSw; go_simp; first | done | with_reducible rfl)
        try simp only [Act.put, List.setIfInBounds_toArray, List.set_cons_zero, List.set_cons_succ]
        refine seqH_nil (NoPanic.normal ?_)
        clear hcS hdS
        have HR7 := Lib.hid hr7
        have HS7 := Lib.hid (HS6.out.grown hg67 HDS.out.1.2.2.1 HDS.out.1.2.2.2.1)
        have HO7 := Lib.hid (HO6.out.grown hg67 HDS.out.1.2.2.2.2.1 HDS.out.1.2.2.2.2.2)
        have HB7 := Lib.hid (HB6.out.grown hg67 HB6.out.size (fun k hk => by cases hk; exact HDS.out.2.2.2.2))
        clear hr7 hgr7 hg67
        go_wp2
        go_roundw
        case rel => exact ⟨k + 1, x1, _, bb, by omega, by go_num, HS7.out, HO7.out, HR7.out, HI1.out, HE1.out, HB7.out⟩
        case measure => simp [intOf]; omega
      | false =>
        obtain ⟨p, hp⟩ : ∃ p, p = putB N x z true := ⟨_, rfl⟩
        obtain ⟨x1, hx1⟩ : ∃ x1, x1 = putX N x z true := ⟨_, rfl⟩
        obtain ⟨bb, hbb⟩ : ∃ bb, bb = rputX N b z true := ⟨_, rfl⟩
        have hI1 := invS_step HI.out z true
        have hE1 := sameS_step HE.out z true
        rw [← hx1] at hI1
        rw [← hx1, ← hbb] at hE1
        have HI1 := Lib.hid hI1
        have HE1 := Lib.hid hE1
        obtain ⟨q, hq⟩ : ∃ q, q = hasF N x1 z := ⟨_, rfl⟩
        have HPS := Lib.hid (show ∀ w, SetAt w g gw N x → Calls Try.prog 19 #[.pointer (some ⟨g, 0, none⟩), .int .i64 z] w fun e w' => e = .returned (.bool p) ∧ SetAt w' g gw N x1 ∧ w.grownBy w' (some gw) from fun w h => by
          rw [hp, hx1]; exact putc_any g gw N z x w h HN4.out)
        have HTU := Lib.hid (show ∀ w, RSetAt w g3 gw3 N b → Calls Try.prog 24 #[.pointer (some ⟨g3, 0, none⟩), .int .i64 z, .bool true] w fun e w' => e = .returned (.bool p) ∧ RSetAt w' g3 gw3 N bb ∧ w.grownBy w' (some gw3) from fun w h => by
          rw [hp, sameS_put HE.out, hbb]; exact rturn_any g3 gw3 N z b true w h)
        have HHS := Lib.hid (show ∀ w, SetAt w g gw N x1 → Calls Try.prog 18 #[.pointer (some ⟨g, 0, none⟩), .int .i64 z] w fun e w' => e = .returned (.bool q) ∧ w = w' from fun w h => by
          rw [hq]; exact has_any g gw N z x1 w h HN4.out)
        have HHR := Lib.hid (show ∀ w, RSetAt w g3 gw3 N bb → Calls Try.prog 25 #[.pointer (some ⟨g3, 0, none⟩), .int .i64 z] w fun e w' => e = .returned (.bool q) ∧ w = w' from fun w h => by
          rw [hq, sameS_has hE1]; exact rhas_any g3 gw3 N z bb w h)
        clear hI1 hE1 hp hx1 hbb hq
        have hcr2 := HDW.out wr HB.out
        go_wp2_with (first
          | (go_at_call 19; refine (putc_any g2 gw2 N _ y wr HO.out HN4.out).mono ?_; rintro e w5 ⟨rfl, ho5, hgr5⟩; have HB5 := Lib.hid (HB.out.grown hgr5 HB.out.size (fun k hk => by cases hk; exact HDS.out.2.2.2.1)); have HO5 := Lib.hid ho5; have HS5 := Lib.hid (HS.out.grown hgr5 HDS.out.1.1 HDS.out.1.2.1); have HR5 := Lib.hid (HR.out.grown hgr5 HDS.out.2.1.2.2.2 (Ne.symm HDS.out.1.2.2.2.2.2)); have hcr5 := HCW.out w5 HB5.out; have hcd5 := HDW.out w5 HB5.out; clear ho5 hgr5)
          | (go_at_call 19; refine (HPS.out w5 HS5.out).mono ?_; rintro e w6 ⟨rfl, hs6, hgr6⟩; have HB6 := Lib.hid (HB5.out.grown hgr6 HB5.out.size (fun k hk => by cases hk; exact HDS.out.2.2.1)); have HS6 := Lib.hid hs6; have HO6 := Lib.hid (HO5.out.grown hgr6 HDS.out.2.1.1 HDS.out.2.1.2.1); have HR6 := Lib.hid (HR5.out.grown hgr6 HDS.out.2.1.2.2.1 (Ne.symm HDS.out.1.2.2.2.1)); clear hs6 hgr6))
        clear hcr hcr2 hcr5 hcd5
        have hcS : ∀ w', w6.grownBy w' (some gw3) → w'.cell? ⟨b0, off + k, none⟩ = some (.int .i64 z) := fun w' hg => HCW.out w' (HB6.out.grown hg HB6.out.size (fun k hk => by cases hk; exact HDS.out.2.2.2.2))
        have hdS : ∀ w', w6.grownBy w' (some gw3) → w'.cell? ⟨b1, off1 + k, none⟩ = some (.bool false) := fun w' hg => HDW.out w' (HB6.out.grown hg HB6.out.size (fun k hk => by cases hk; exact HDS.out.2.2.2.2))
        refine wp_region_plan (S := fun w' => w6.grownBy w' (some gw3)) [0, 1, 2, 3, 4, 5, 6, 7, 8, 9, 10, 11, 12, 13, 14, 15, 16, 17, 18, 20, 21, 22, 23, 24, 19, 25, 26, 27] [true, true, true, true, true, true, true, true, true, true, true, false, true, true, true, true, true, true, true, true, true, true, true, true, false, false, true, true] (by kernel_rfl) (by kernel_rfl) (grown_drew (grown_refl _ _)) (fun _ => ?_)
        simp only [List.filterMap_cons, List.filterMap_nil, List.getElem?_toArray, List.getElem?_cons_zero, List.getElem?_cons_succ]
        refine seqH_take (v := ?_) (Or.inl ⟨by rfl, ?_⟩) ?_
        rotate_left
        · (intro w hSw; go_simp; first | done | with_reducible rfl)
        try simp only [Act.put, List.setIfInBounds_toArray, List.set_cons_zero, List.set_cons_succ]
        refine seqH_take (v := ?_) (Or.inl ⟨by rfl, ?_⟩) ?_
        rotate_left
        · (intro w hSw; go_simp; first | done | with_reducible rfl)
        try simp only [Act.put, List.setIfInBounds_toArray, List.set_cons_zero, List.set_cons_succ]
        refine seqH_take (v := ?_) (Or.inl ⟨by rfl, ?_⟩) ?_
        rotate_left
        · (intro w hSw; go_simp; first | done | with_reducible rfl)
        try simp only [Act.put, List.setIfInBounds_toArray, List.set_cons_zero, List.set_cons_succ]
        refine seqH_take (v := ?_) (Or.inl ⟨by rfl, ?_⟩) ?_
        rotate_left
        · (intro w hSw; go_simp; first | done | with_reducible rfl)
        try simp only [Act.put, List.setIfInBounds_toArray, List.set_cons_zero, List.set_cons_succ]
        refine seqH_take (v := ?_) (Or.inl ⟨by rfl, ?_⟩) ?_
        rotate_left
        · (intro w hSw; go_simp; first | done | with_reducible rfl)
        try simp only [Act.put, List.setIfInBounds_toArray, List.set_cons_zero, List.set_cons_succ]
        refine seqH_take (v := ?_) (Or.inl ⟨by rfl, ?_⟩) ?_
        rotate_left
        · (intro w hSw; go_simp; first | done | with_reducible rfl)
        try simp only [Act.put, List.setIfInBounds_toArray, List.set_cons_zero, List.set_cons_succ]
        refine seqH_take (v := ?_) (Or.inl ⟨by rfl, ?_⟩) ?_
        rotate_left
        · (intro w hSw; go_simp; first | done | with_reducible rfl)
        try simp only [Act.put, List.setIfInBounds_toArray, List.set_cons_zero, List.set_cons_succ]
        refine seqH_take (v := ?_) (Or.inl ⟨by rfl, ?_⟩) ?_
        rotate_left
        · (intro w hSw; go_simp; first | done | with_reducible rfl)
        try simp only [Act.put, List.setIfInBounds_toArray, List.set_cons_zero, List.set_cons_succ]
        refine seqH_take (v := ?_) (Or.inl ⟨by rfl, ?_⟩) ?_
        rotate_left
        · (intro w hSw; go_simp; first | done | with_reducible rfl)
        try simp only [Act.put, List.setIfInBounds_toArray, List.set_cons_zero, List.set_cons_succ]
        refine seqH_take (v := ?_) (Or.inl ⟨by rfl, ?_⟩) ?_
        rotate_left
        · (intro w hSw; go_simp; first | done | with_reducible rfl)
        try simp only [Act.put, List.setIfInBounds_toArray, List.set_cons_zero, List.set_cons_succ]
        refine seqH_take (v := ?_) (Or.inl ⟨by rfl, ?_⟩) ?_
        rotate_left
        · (intro w hSw; go_simp; first | done | with_reducible rfl)
        try simp only [Act.put, List.setIfInBounds_toArray, List.set_cons_zero, List.set_cons_succ]
        refine seqH_go (fun K hK => ?_)
        rw [if_pos (by rfl)]
        go_simp
        refine (HTU.out w6.drew ⟨HR6.out.hs, HR6.out.hw, HR6.out.ne⟩).mono ?_; rintro e w7 ⟨rfl, hr7, hgr7⟩; have hg67 : w6.grownBy w7 (some gw3) := grown_trans (grown_drew (grown_refl _ _)) hgr7
        try dsimp only
        refine hK.out _ _ (hg67) (fun _ => ?_)
        clear hK K
        try simp only [Act.put, List.setIfInBounds_toArray, List.set_cons_zero, List.set_cons_succ]
        refine seqH_take (v := ?_) (Or.inl ⟨by rfl, ?_⟩) ?_
        rotate_left
        · (intro w hSw; go_simp; first | done | with_reducible rfl)
        try simp only [Act.put, List.setIfInBounds_toArray, List.set_cons_zero, List.set_cons_succ]
        refine seqH_take (v := ?_) (Or.inl ⟨by rfl, ?_⟩) ?_
        rotate_left
        · (intro w hSw; go_simp; first | done | with_reducible rfl)
        try simp only [Act.put, List.setIfInBounds_toArray, List.set_cons_zero, List.set_cons_succ]
        refine seqH_take (v := ?_) (Or.inl ⟨by rfl, ?_⟩) ?_
        rotate_left
        · (intro w hSw; go_simp; first | done | with_reducible rfl)
        try simp only [Act.put, List.setIfInBounds_toArray, List.set_cons_zero, List.set_cons_succ]
        refine seqH_take (v := ?_) (Or.inl ⟨by rfl, ?_⟩) ?_
        rotate_left
        · (intro w hSw; go_simp; first | done | with_reducible rfl)
        try simp only [Act.put, List.setIfInBounds_toArray, List.set_cons_zero, List.set_cons_succ]
        refine seqH_take (v := ?_) (Or.inl ⟨by rfl, ?_⟩) ?_
        rotate_left
        · (intro w hSw; go_simp; first | done | with_reducible rfl)
        try simp only [Act.put, List.setIfInBounds_toArray, List.set_cons_zero, List.set_cons_succ]
        refine seqH_take (v := ?_) (Or.inl ⟨by rfl, ?_⟩) ?_
        rotate_left
        · (intro w hSw; go_simp; first | done | with_reducible rfl)
        try simp only [Act.put, List.setIfInBounds_toArray, List.set_cons_zero, List.set_cons_succ]
        refine seqH_take (v := ?_) (Or.inl ⟨by rfl, ?_⟩) ?_
        rotate_left
        · (intro w hSw; go_simp; first | done | with_reducible rfl)
        try simp only [Act.put, List.setIfInBounds_toArray, List.set_cons_zero, List.set_cons_succ]
        refine seqH_take (v := ?_) (Or.inl ⟨by rfl, ?_⟩) ?_
        rotate_left
        · (intro w hSw; go_simp; first | done | with_reducible rfl)
        try simp only [Act.put, List.setIfInBounds_toArray, List.set_cons_zero, List.set_cons_succ]
        refine seqH_take (v := ?_) (Or.inl ⟨by rfl, ?_⟩) ?_
        rotate_left
        · (intro w hSw; go_simp; first | done | with_reducible rfl)
        try simp only [Act.put, List.setIfInBounds_toArray, List.set_cons_zero, List.set_cons_succ]
        refine seqH_take (v := ?_) (Or.inl ⟨by rfl, ?_⟩) ?_
        rotate_left
        · (intro w hSw; go_simp; first | done | with_reducible rfl)
        try simp only [Act.put, List.setIfInBounds_toArray, List.set_cons_zero, List.set_cons_succ]
        refine seqH_take (v := ?_) (Or.inl ⟨by rfl, ?_⟩) ?_
        rotate_left
        · (intro w hSw; go_simp; first | done | with_reducible rfl)
        try simp only [Act.put, List.setIfInBounds_toArray, List.set_cons_zero, List.set_cons_succ]
        refine seqH_take (v := ?_) (Or.inl ⟨by rfl, ?_⟩) ?_
        rotate_left
        · (intro w hSw; go_simp; first | done | with_reducible rfl)
        try simp only [Act.put, List.setIfInBounds_toArray, List.set_cons_zero, List.set_cons_succ]
        refine seqH_go (fun K hK => ?_)
        rw [if_pos (by rfl)]
        go_simp
        refine (HHS.out _ (HS6.out.grown hg67 HDS.out.1.2.2.1 HDS.out.1.2.2.2.1)).mono ?_; rintro e w8 ⟨rfl, rfl⟩
        try dsimp only
        refine hK.out _ _ (hg67) (fun _ => ?_)
        clear hK K
        try simp only [Act.put, List.setIfInBounds_toArray, List.set_cons_zero, List.set_cons_succ]
        refine seqH_go (fun K hK => ?_)
        rw [if_pos (by rfl)]
        go_simp
        refine (HHR.out _ hr7).mono ?_; rintro e w9 ⟨rfl, rfl⟩
        try dsimp only
        refine hK.out _ _ (hg67) (fun _ => ?_)
        clear hK K
        try simp only [Act.put, List.setIfInBounds_toArray, List.set_cons_zero, List.set_cons_succ]
        refine seqH_take (v := ?_) (Or.inl ⟨by rfl, ?_⟩) ?_
        rotate_left
        · (intro w hSw; go_simp; first | done | with_reducible rfl)
        try simp only [Act.put, List.setIfInBounds_toArray, List.set_cons_zero, List.set_cons_succ]
        refine seqH_take (v := ?_) (Or.inl ⟨by rfl, ?_⟩) ?_
        rotate_left
        · (intro w hSw; go_simp; first | done | with_reducible rfl)
        try simp only [Act.put, List.setIfInBounds_toArray, List.set_cons_zero, List.set_cons_succ]
        refine seqH_nil (NoPanic.normal ?_)
        clear hcS hdS
        have HR7 := Lib.hid hr7
        have HS7 := Lib.hid (HS6.out.grown hg67 HDS.out.1.2.2.1 HDS.out.1.2.2.2.1)
        have HO7 := Lib.hid (HO6.out.grown hg67 HDS.out.1.2.2.2.2.1 HDS.out.1.2.2.2.2.2)
        have HB7 := Lib.hid (HB6.out.grown hg67 HB6.out.size (fun k hk => by cases hk; exact HDS.out.2.2.2.2))
        clear hr7 hgr7 hg67
        go_wp2
        go_roundw
        case rel => exact ⟨k + 1, x1, _, bb, by omega, by go_num, HS7.out, HO7.out, HR7.out, HI1.out, HE1.out, HB7.out⟩
        case measure => simp [intOf]; omega
    · obtain rfl : k = L := by omega
      have hEm := missF_same HE.out
      obtain ⟨m, hm⟩ : ∃ m, m = missF N b := ⟨_, rfl⟩
      have HMI := Lib.hid (show ∀ w, RSetAt w g3 gw3 N b → Calls Try.prog 26 #[.pointer (some ⟨g3, 0, none⟩)] w fun e w' => ∃ v, e = .returned v ∧ IRow w' v m ∧ Below w.heap.size w w' from fun w h => by
        rw [hm]; exact rmissing_any g3 gw3 N b w h HN4.out)
      have HMS := Lib.hid (show ∀ w, SetAt w g gw N x → Calls Try.prog 28 #[.pointer (some ⟨g, 0, none⟩)] w fun e w' => ∃ v, e = .returned v ∧ IRow w' v m ∧ Below w.heap.size w w' from fun w h => by
        rw [hm, ← hEm]; exact missing_any g gw N x w h HN4.out)
      have hlen := missF_length b N
      rw [← hm] at hlen
      have hcnt : cntB (bitv x) N = cntB b N := cntB_congr N HE.out
      obtain ⟨M, hM⟩ : ∃ M, M = m.length := ⟨_, rfl⟩
      have HMM := Lib.hid hM
      rw [← hM] at hlen
      have HCO := Lib.hid (show ∀ w, SetAt w g gw N x → Calls Try.prog 20 #[.pointer (some ⟨g, 0, none⟩)] w fun e w' => e = .returned (.int .i64 ((N : Int) - (M : Int))) ∧ w = w' from fun w h => by
        have := count_any g gw N x w h HN4.out
        rw [cntW_set HI.out, hcnt, show ((cntB b N : Nat) : Int) = (N : Int) - (M : Int) by omega] at this
        exact this)
      have HFU := Lib.hid (show ∀ w, SetAt w g gw N x → Calls Try.prog 21 #[.pointer (some ⟨g, 0, none⟩)] w fun e w' => e = .returned (.bool ((M : Int) == 0)) ∧ Below w.heap.size w w' from fun w h => by
        have := full_any g gw N x w h HN4.out
        rw [hEm, ← hm] at this
        rw [show ((M : Int) == 0) = decide (m = []) from by
          by_cases e : m = []
          · rw [decide_eq_true e, hM, e]; rfl
          · rw [decide_eq_false e]
            refine beq_eq_false_iff_ne.2 fun h0 => e (List.eq_nil_of_length_eq_zero (by omega))]
        exact this)
      have hwr : IntKind.i64.wrap ((N : Int) - (M : Int)) = (N : Int) - (M : Int) := IntWalk.i64_in _ (by have := HN4.out; omega)
      have HML := Lib.hid (show m.length ≤ 1000000 by have := HN4.out; omega)
      clear hEm hm hlen hcnt hM
      go_wp2_with (go_at_call 26; refine (HMI.out _ HR.out).mono ?_; rintro e w5 ⟨v5, rfl, hr5, hb5⟩; obtain ⟨a5, c5, e5⟩ := hr5.shape; rw [← HMM.out] at e5; subst e5; have HR5 := Lib.hid hr5; have HB5 := Lib.hid (HB.out.trans (hb5.mono HB.out.size)); have HS5 := Lib.hid (HS.out.below hb5); have HT5 := Lib.hid (HR.out.below hb5); clear hr5 hb5)
      have hcs : ∀ w', Below w5.heap.size w5 w' → w'.cell? ⟨g3, 0, none⟩ = some (.slice (some ⟨gw3, 0, none⟩) N N) := fun w' hb => (HT5.out.below hb).c0
      refine wp_region_plan (S := fun w' => Below w5.heap.size w5 w') [0, 2, 1, 3, 4, 5, 7, 8, 9, 10, 11, 12, 13, 14, 6, 15, 16, 17, 18, 20, 21, 22, 19, 23, 24, 25] [true, true, false, false, true, true, true, true, true, true, true, true, true, true, false, true, true, true, true, true, true, true, false, true, true, true] (by kernel_rfl) (by kernel_rfl) (Below.refl _ _).drew (fun hHeld => ?_)
      simp only [List.filterMap_cons, List.filterMap_nil, List.getElem?_toArray, List.getElem?_cons_zero, List.getElem?_cons_succ]
      refine seqH_take (v := ?_) (Or.inl ⟨by rfl, ?_⟩) ?_
      rotate_left
      · (intro w hSw; go_simp; first | done | with_reducible rfl)
      try simp only [Act.put, List.setIfInBounds_toArray, List.set_cons_zero, List.set_cons_succ]
      refine seqH_take (v := ?_) (Or.inl ⟨by rfl, ?_⟩) ?_
      rotate_left
      · (intro w hSw; go_simp; first | done | with_reducible rfl)
      try simp only [Act.put, List.setIfInBounds_toArray, List.set_cons_zero, List.set_cons_succ]
      refine seqH_go (fun K hK => ?_)
      rw [if_pos (by rfl)]
      go_simp
      refine (HMS.out _ (HS5.out.below hHeld)).mono ?_; rintro e w6 ⟨v6, rfl, hr6, hbc⟩; have HR6 := Lib.hid hr6; clear hr6
      try dsimp only
      refine hK.out _ _ (below_keep hHeld hbc) (fun hHeld2 => ?_)
      clear hK K hHeld
      have hHeld := hHeld2
      clear hHeld2
      try simp only [Act.put, List.setIfInBounds_toArray, List.set_cons_zero, List.set_cons_succ]
      refine seqH_go (fun K hK => ?_)
      rw [if_pos (by rfl)]
      go_simp
      refine (same_self _ _ m _ HR6.out (HR5.out.below hHeld) HML.out).mono ?_; rintro e w7 ⟨rfl, hbc⟩
      try dsimp only
      refine hK.out _ _ (below_keep hHeld hbc) (fun hHeld2 => ?_)
      clear hK K hHeld
      have hHeld := hHeld2
      clear hHeld2
      try simp only [Act.put, List.setIfInBounds_toArray, List.set_cons_zero, List.set_cons_succ]
      refine seqH_take (v := ?_) (Or.inl ⟨by rfl, ?_⟩) ?_
      rotate_left
      · (intro w hSw; go_simp; first | done | with_reducible rfl)
      try simp only [Act.put, List.setIfInBounds_toArray, List.set_cons_zero, List.set_cons_succ]
      refine seqH_take (v := ?_) (Or.inl ⟨by rfl, ?_⟩) ?_
      rotate_left
      · (intro w hSw; go_simp; first | done | with_reducible rfl)
      try simp only [Act.put, List.setIfInBounds_toArray, List.set_cons_zero, List.set_cons_succ]
      refine seqH_take (v := ?_) (Or.inl ⟨by rfl, ?_⟩) ?_
      rotate_left
      · (intro w hSw; go_simp; first | done | with_reducible rfl)
      try simp only [Act.put, List.setIfInBounds_toArray, List.set_cons_zero, List.set_cons_succ]
      refine seqH_take (v := ?_) (Or.inl ⟨by rfl, ?_⟩) ?_
      rotate_left
      · (intro w hSw; go_simp; first | done | with_reducible rfl)
      try simp only [Act.put, List.setIfInBounds_toArray, List.set_cons_zero, List.set_cons_succ]
      refine seqH_take (v := ?_) (Or.inl ⟨by rfl, ?_⟩) ?_
      rotate_left
      · (intro w hSw; go_simp; first | done | with_reducible rfl)
      try simp only [Act.put, List.setIfInBounds_toArray, List.set_cons_zero, List.set_cons_succ]
      refine seqH_take (v := ?_) (Or.inl ⟨by rfl, ?_⟩) ?_
      rotate_left
      · (intro w hSw; go_simp; first | done | with_reducible rfl)
      try simp only [Act.put, List.setIfInBounds_toArray, List.set_cons_zero, List.set_cons_succ]
      refine seqH_take (v := ?_) (Or.inl ⟨by rfl, ?_⟩) ?_
      rotate_left
      · (intro w hSw; go_simp; first | done | with_reducible rfl)
      try simp only [Act.put, List.setIfInBounds_toArray, List.set_cons_zero, List.set_cons_succ]
      refine seqH_take (v := ?_) (Or.inl ⟨by rfl, ?_⟩) ?_
      rotate_left
      · (intro w hSw; go_simp; first | done | with_reducible rfl)
      try simp only [Act.put, List.setIfInBounds_toArray, List.set_cons_zero, List.set_cons_succ]
      refine seqH_take (v := ?_) (Or.inl ⟨by rfl, ?_⟩) ?_
      rotate_left
      · (intro w hSw; go_simp; first | done | with_reducible rfl)
      try simp only [Act.put, List.setIfInBounds_toArray, List.set_cons_zero, List.set_cons_succ]
      refine seqH_take (v := ?_) (Or.inl ⟨by rfl, ?_⟩) ?_
      rotate_left
      · (intro w hSw; go_simp; first | done | with_reducible rfl)
      try simp only [Act.put, List.setIfInBounds_toArray, List.set_cons_zero, List.set_cons_succ]
      refine seqH_go (fun K hK => ?_)
      rw [if_pos (by rfl)]
      go_simp
      refine (HCO.out _ (HS5.out.below hHeld)).mono ?_; rintro e w8 ⟨rfl, rfl⟩
      try dsimp only
      refine hK.out _ _ hHeld (fun hHeld2 => ?_)
      clear hK K hHeld
      have hHeld := hHeld2
      clear hHeld2
      try simp only [Act.put, List.setIfInBounds_toArray, List.set_cons_zero, List.set_cons_succ]
      refine seqH_take (v := ?_) (Or.inl ⟨by rfl, ?_⟩) ?_
      rotate_left
      · (intro w hSw; go_simp; first | done | with_reducible rfl)
      try simp only [Act.put, List.setIfInBounds_toArray, List.set_cons_zero, List.set_cons_succ]
      refine seqH_take (v := ?_) (Or.inl ⟨by rfl, ?_⟩) ?_
      rotate_left
      · (intro w hSw; go_simp; first | done | with_reducible rfl)
      try simp only [Act.put, List.setIfInBounds_toArray, List.set_cons_zero, List.set_cons_succ]
      refine seqH_take (v := ?_) (Or.inl ⟨by rfl, ?_⟩) ?_
      rotate_left
      · (intro w hSw; go_simp; first | done | with_reducible rfl)
      try simp only [Act.put, List.setIfInBounds_toArray, List.set_cons_zero, List.set_cons_succ]
      refine seqH_take (v := ?_) (Or.inl ⟨by rfl, ?_⟩) ?_
      rotate_left
      · (intro w hSw; go_simp; first | done | with_reducible rfl)
      try simp only [Act.put, List.setIfInBounds_toArray, List.set_cons_zero, List.set_cons_succ]
      refine seqH_take (v := ?_) (Or.inl ⟨by rfl, ?_⟩) ?_
      rotate_left
      · (intro w hSw; go_simp; first | done | with_reducible rfl)
      try simp only [Act.put, List.setIfInBounds_toArray, List.set_cons_zero, List.set_cons_succ]
      refine seqH_take (v := ?_) (Or.inl ⟨by rfl, ?_⟩) ?_
      rotate_left
      · (intro w hSw; go_simp; first | done | with_reducible rfl)
      try simp only [Act.put, List.setIfInBounds_toArray, List.set_cons_zero, List.set_cons_succ]
      refine seqH_take (v := ?_) (Or.inl ⟨by rfl, ?_⟩) ?_
      rotate_left
      · (intro w hSw; go_simp; first | done | with_reducible rfl)
      try simp only [Act.put, List.setIfInBounds_toArray, List.set_cons_zero, List.set_cons_succ]
      refine seqH_go (fun K hK => ?_)
      rw [if_pos (by rfl)]
      go_simp
      refine (HFU.out _ (HS5.out.below hHeld)).mono ?_; rintro e w9 ⟨rfl, hbc⟩
      try dsimp only
      refine hK.out _ _ (below_keep hHeld hbc) (fun hHeld2 => ?_)
      clear hK K hHeld
      have hHeld := hHeld2
      clear hHeld2
      try simp only [Act.put, List.setIfInBounds_toArray, List.set_cons_zero, List.set_cons_succ]
      refine seqH_take (v := ?_) (Or.inl ⟨by rfl, ?_⟩) ?_
      rotate_left
      · (intro w hSw; go_simp; first | done | with_reducible rfl)
      try simp only [Act.put, List.setIfInBounds_toArray, List.set_cons_zero, List.set_cons_succ]
      refine seqH_take (v := ?_) (Or.inl ⟨by rfl, ?_⟩) ?_
      rotate_left
      · (intro w hSw; go_simp; first | done | with_reducible rfl)
      try simp only [Act.put, List.setIfInBounds_toArray, List.set_cons_zero, List.set_cons_succ]
      refine seqH_take (v := ?_) (Or.inl ⟨by rfl, ?_⟩) ?_
      rotate_left
      · (intro w hSw; go_simp; first | done | with_reducible rfl)
      try simp only [Act.put, List.setIfInBounds_toArray, List.set_cons_zero, List.set_cons_succ]
      refine seqH_nil (NoPanic.normal ?_)
      clear hcs hwr
      go_wp2
      go_ret
      exact ⟨rfl, HB5.out.trans (hHeld.mono HB5.out.size)⟩

end Go.Proofs.Ytdcndfcdjlpecaa
