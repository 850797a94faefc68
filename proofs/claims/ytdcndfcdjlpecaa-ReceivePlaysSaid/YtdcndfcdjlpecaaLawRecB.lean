/-
  The example of chapter 23 and the walk of the law ReceiveBack.
-/
import Derived.Test.YtdcndfcdjlpecaaRecw
import Derived.Test.YtdcndfcdjlpecaaArgs
namespace Go.Proofs.Ytdcndfcdjlpecaa
open Go.RowKit
set_option linter.unusedVariables false
set_option linter.unusedSimpArgs false

theorem putB_in {n : Nat} {x : Nat → BitVec 64} {k : Nat} {b : Bool} (h : k < n) : putB n x (k : Int) b = (bitv x k != b) := by
  unfold putB
  rw [decide_eq_true (by omega), Bool.true_and, Int.toNat_natCast]
theorem flip_flip (x : Nat → BitVec 64) (k : Nat) : flipv (flipv x k) k = x := by
  funext j
  unfold flipv upd
  by_cases h : j = k / 64
  · subst h; simp [BitVec.xor_assoc]
  · rw [if_neg h, if_neg h]
theorem bitv_zero (k : Nat) : bitv (fun _ => 0) k = false := by simp [bitv]
theorem cntW_zero : ∀ m, cntW (fun _ => 0) m = 0
  | 0 => rfl
  | m + 1 => by simp only [cntW]; rw [cntW_zero m, pop_zero]
theorem missF_none (n : Nat) (b : Nat → Bool) (h : ∀ i, i < n → b i = false) : missF n b = (List.range n).map fun i : Nat => (i : Int) := by
  unfold missF
  rw [List.filter_eq_self.2]
  intro i hi
  rw [h i (List.mem_range.1 hi)]; rfl
theorem i64_and4095 (a : Int) (h : -9223372036854775808 ≤ a ∧ a ≤ 9223372036854775807) : bits .and .i64 a 4095 = ((a % 4096).toNat : Int) := by
  show IntKind.i64.wrap ((BitVec.ofInt 64 a &&& BitVec.ofInt 64 4095).toNat : Int) = _
  have h1 : (BitVec.ofInt 64 4095).toNat = 4095 := by decide
  have h2 : (BitVec.ofInt 64 a).toNat = (a % 18446744073709551616).toNat := by rw [BitVec.toNat_ofInt]; rfl
  have h3 : ∀ m : Nat, m &&& 4095 = m % 4096 := fun m => Nat.and_two_pow_sub_one_eq_mod m 12
  rw [BitVec.toNat_and, h1, h2, h3, IntWalk.i64_in _ (by omega)]
  omega

set_option maxRecDepth 100000 in
set_option maxHeartbeats 1000000 in
theorem alive23_any (w : World) : Calls Try.prog 16 #[] w fun e w' => e = .returned (.bool true) ∧ Below w.heap.size w w' := by
  have hcl : clampN 2 = 2 := by decide
  have HN := Lib.hid (show ∀ w, Calls Try.prog 17 #[.int .i64 2] w fun e w' => ∃ g gw, e = .returned (.pointer (some ⟨g, 0, none⟩)) ∧ SetAt w' g gw 2 (fun _ => 0) ∧ w.heap.size ≤ g ∧ w.heap.size ≤ gw ∧ Below w.heap.size w w' from fun w => by
    have := new_any 2 w
    rw [hcl] at this
    exact this)
  have HP := Lib.hid (show ∀ g gw w, SetAt w g gw 2 (fun _ => 0) → Calls Try.prog 19 #[.pointer (some ⟨g, 0, none⟩), .int .i64 1] w fun e w' => e = .returned (.bool true) ∧ SetAt w' g gw 2 (flipv (fun _ => 0) 1) ∧ w.grownBy w' (some gw) from fun g gw w h => by
    have h1 : putB 2 (fun _ => 0) 1 true = true := by decide
    have := putc_any g gw 2 1 (fun _ => 0) w h (by decide)
    unfold putX at this
    rw [h1, if_pos rfl] at this
    exact this)
  have HM := Lib.hid (show missF 2 (bitv (flipv (fun _ => 0) 1)) = [0] from by decide)
  clear hcl
  go_enter Try.func16, Try.ntmps16
  go_wp2_with (first
    | (go_at_call 17; refine (HN.out _).mono ?_; rintro e w1 ⟨g, gw, rfl, hs1, hg1, hg2, hb1⟩)
    | (go_at_call 19; refine (HP.out g gw _ hs1).mono ?_; rintro e w2 ⟨rfl, hs2, hgr2⟩; have HB2 := Lib.hid (hb1.grown hgr2 hb1.size (fun k hk => by cases hk; exact hg2)))
    | (go_at_call 28; refine (missing_any g gw 2 _ _ hs2 (by decide)).mono ?_; rintro e w3 ⟨v, rfl, hr3, hb3⟩; rw [HM.out] at hr3; have HB3 := Lib.hid (HB2.out.trans (hb3.mono HB2.out.size)); obtain ⟨a3, c3, e3⟩ := hr3.shape; subst e3)
    | (go_at_call 27; refine (same_self _ _ [0] _ (hr3.below ((Below.refl _ _).alloc (Nat.le_refl _) _)) (irow_one (c := 1) 0 (heap_alloc_new _ _)) (by decide)).mono ?_; rintro e w4 ⟨rfl, hb4⟩))
  go_ret
  have hb5 := HB3.out.alloc HB3.out.size (.cells #[.int .i64 0] 3)
  exact ⟨rfl, hb5.trans (hb4.mono hb5.size)⟩

set_option maxRecDepth 100000 in
set_option maxHeartbeats 2000000 in
theorem receiveBack_in (a : Option Addr) (c : Nat) (l : List Int) (n : Nat) (w : World) (hv : IRow w (.slice a l.length c) l) (hw : ∀ x ∈ l, -9223372036854775808 ≤ x ∧ x ≤ 9223372036854775807) (h1 : 1 ≤ n) (hn : n ≤ 200) (hl : l.length ≤ 100) :
    Calls Try.prog 9 #[.int .i64 (n : Int), .slice a l.length c] w fun e w' => e = .returned (.bool true) ∧ Below w.heap.size w w' := by
  obtain ⟨N, hN⟩ : ∃ N, N = l.length := ⟨_, rfl⟩
  have HNL := Lib.hid hN
  rw [← hN] at hv hl ⊢
  have hn1 : (1 : Int) ≤ (n : Int) := by omega
  have hn2 : (n : Int) ≤ 200 := by omega
  have hz1 : ((100 : Int) < (N : Int)) = False := eq_false (by omega)
  have HV := Lib.hid hv
  have HW := Lib.hid hw
  have HL := Lib.hid hl
  have HNW := Lib.hid (show ∀ w, Calls Try.prog 17 #[.int .i64 (n : Int)] w fun e w' => ∃ g gw, e = .returned (.pointer (some ⟨g, 0, none⟩)) ∧ SetAt w' g gw n (fun _ => 0) ∧ w.heap.size ≤ g ∧ w.heap.size ≤ gw ∧ Below w.heap.size w w' from fun w => by
    have := new_any (n : Int) w
    rw [show clampN (n : Int) = n by unfold clampN; omega] at this
    exact this)
  clear hv hw hl hN
  go_enter Try.func9, Try.ntmps9
  go_wp2_with (first
    | (go_at_call 16; refine (alive23_any _).mono ?_; rintro e w1 ⟨rfl, hb1⟩; have HV1 := Lib.hid (HV.out.below hb1))
    | (go_at_call 17; refine (HNW.out _).mono ?_; rintro e w2 ⟨g, gw, rfl, hs2, hg1, hg2, hb2⟩; have HV2 := Lib.hid (HV1.out.below hb2); have HB2 := Lib.hid (hb1.trans (hb2.mono hb1.size)); have HS2 := Lib.hid hs2; clear hs2 hb2))
  have hgw : w.heap.size ≤ gw := Nat.le_trans hb1.size hg2
  have hvw : ∀ wr, Below w.heap.size w wr → IRow wr (.slice a N c) l := fun wr hb => HV.out.below hb
  have HVW := Lib.hid hvw
  clear hvw hb1 hg1 hg2
  go_loopw [7] (fun i wr => ∃ k : Nat, k ≤ N ∧ i = .int .i64 k ∧ SetAt wr g gw n (fun _ => 0) ∧ Below w.heap.size w wr) (fun i _ => N - (intOf i).toNat)
  case atStart => exact ⟨0, Nat.zero_le _, rfl, HS2.out, HB2.out⟩
  case round =>
    clear HS2 HB2 HV1 HV2
    obtain ⟨k, hk, rfl, hs, hb⟩ := hrel
    have HS := Lib.hid hs
    have HB := Lib.hid hb
    clear hs hb
    by_cases hlt : k < N
    · have hkl : k < l.length := by rw [← HNL.out]; exact hlt
      obtain ⟨b, off, rfl, hbl, hc⟩ := (HVW.out wr HB.out).at (by omega)
      have hc1 := hc k hkl
      have hx := HW.out (l[k]'hkl) (List.getElem_mem hkl)
      obtain ⟨y, hy⟩ : ∃ y, y = l[k]'hkl := ⟨_, rfl⟩
      rw [← hy] at hc1 hx
      clear hc hy hkl
      obtain ⟨q, hq⟩ : ∃ q, q = (y % 4096).toNat := ⟨_, rfl⟩
      have hand := i64_and4095 y hx
      rw [← hq] at hand
      have hql : q < 4096 := by omega
      have HKM := Lib.hid (Nat.mod_lt q (show 0 < n by omega))
      have hx0 : ∀ j, bitv (fun _ => 0) j = false := bitv_zero
      obtain ⟨x0, hxx⟩ : ∃ x0 : Nat → BitVec 64, x0 = fun _ => 0 := ⟨_, rfl⟩
      rw [← hxx] at hx0
      have HS0 := Lib.hid (show SetAt wr g gw n x0 from by rw [hxx]; exact HS.out)
      have HX0 := Lib.hid hxx
      obtain ⟨x1, hx1⟩ : ∃ x1, x1 = flipv x0 (q % n) := ⟨_, rfl⟩
      have hb1 : bitv x1 (q % n) = true := by rw [hx1, bitv_flip, if_pos rfl, hx0]; rfl
      have hx2 : flipv x1 (q % n) = x0 := by rw [hx1, flip_flip]
      have ecast : ((q % n : Nat) : Int) = (q : Int) % (n : Int) := Int.natCast_emod q n
      have HP1 := Lib.hid (show ∀ w, SetAt w g gw n x0 → Calls Try.prog 19 #[.pointer (some ⟨g, 0, none⟩), .int .i64 ((q : Int) % (n : Int))] w fun e w' => e = .returned (.bool true) ∧ SetAt w' g gw n x1 ∧ w.grownBy w' (some gw) from fun w h => by
        have := putc_any g gw n ((q % n : Nat) : Int) x0 w h (by omega)
        unfold putX at this
        rw [putB_in HKM.out, hx0, Int.toNat_natCast, ← hx1, ecast] at this
        exact this)
      have HP2 := Lib.hid (show ∀ w, SetAt w g gw n x1 → Calls Try.prog 19 #[.pointer (some ⟨g, 0, none⟩), .int .i64 ((q : Int) % (n : Int))] w fun e w' => e = .returned (.bool false) ∧ SetAt w' g gw n x1 ∧ w.grownBy w' (some gw) from fun w h => by
        have := putc_any g gw n ((q % n : Nat) : Int) x1 w h (by omega)
        unfold putX at this
        rw [putB_in HKM.out, hb1, ecast] at this
        exact this)
      have HD1 := Lib.hid (show ∀ w, SetAt w g gw n x1 → Calls Try.prog 23 #[.pointer (some ⟨g, 0, none⟩), .int .i64 ((q : Int) % (n : Int))] w fun e w' => e = .returned (.bool true) ∧ SetAt w' g gw n x0 ∧ w.grownBy w' (some gw) from fun w h => by
        have := dropc_any g gw n ((q % n : Nat) : Int) x1 w h (by omega)
        unfold putX at this
        rw [putB_in HKM.out, hb1, Int.toNat_natCast, hx2, ecast] at this
        exact this)
      have HD2 := Lib.hid (show ∀ w, SetAt w g gw n x0 → Calls Try.prog 23 #[.pointer (some ⟨g, 0, none⟩), .int .i64 ((q : Int) % (n : Int))] w fun e w' => e = .returned (.bool false) ∧ SetAt w' g gw n x0 ∧ w.grownBy w' (some gw) from fun w h => by
        have := dropc_any g gw n ((q % n : Nat) : Int) x0 w h (by omega)
        unfold putX at this
        rw [putB_in HKM.out, hx0, ecast] at this
        exact this)
      have HH := Lib.hid (show ∀ w, SetAt w g gw n x0 → Calls Try.prog 18 #[.pointer (some ⟨g, 0, none⟩), .int .i64 ((q : Int) % (n : Int))] w fun e w' => e = .returned (.bool false) ∧ w = w' from fun w h => by
        have := has_in g gw n (q % n) x0 w h HKM.out (by omega)
        rw [hx0, ecast] at this
        exact this)
      have HC := Lib.hid (show ∀ w, SetAt w g gw n x0 → Calls Try.prog 20 #[.pointer (some ⟨g, 0, none⟩)] w fun e w' => e = .returned (.int .i64 0) ∧ w = w' from fun w h => by
        have := count_any g gw n x0 w h (by omega)
        rw [hxx, cntW_zero] at this
        exact this)
      have hk0 : (0 : Int) ≤ (k : Int) := by omega
      have hk1 : (k : Int) < (N : Int) := by omega
      have hk2 : (k : Int) < 100 := by have := HL.out; omega
      have hnn : ¬ n = 0 := by omega
      have hnn2 : ¬ ((n : Int) = 0) := by omega
      clear hx1 hb1 hx2 hx0 hxx hq hx hbl ecast
      go_wp2_with (first
        | (go_at_call 19; first
          | (refine (HP1.out _ HS0.out).mono ?_; rintro e w3 ⟨rfl, hs3, hgr3⟩; have HS3 := Lib.hid hs3; have HB3 := Lib.hid (HB.out.grown hgr3 HB.out.size (fun k hk => by cases hk; exact hgw)); clear hs3 hgr3 HS0)
          | (refine (HP2.out _ HS3.out).mono ?_; rintro e w4 ⟨rfl, hs4, hgr4⟩; have HS4 := Lib.hid hs4; have HB4 := Lib.hid (HB3.out.grown hgr4 HB3.out.size (fun k hk => by cases hk; exact hgw)); clear hs4 hgr4 HS3))
        | (go_at_call 23; first
          | (refine (HD1.out _ HS4.out).mono ?_; rintro e w5 ⟨rfl, hs5, hgr5⟩; have HS5 := Lib.hid hs5; have HB5 := Lib.hid (HB4.out.grown hgr5 HB4.out.size (fun k hk => by cases hk; exact hgw)); clear hs5 hgr5 HS4)
          | (refine (HD2.out _ HS5.out).mono ?_; rintro e w6 ⟨rfl, hs6, hgr6⟩; have HS6 := Lib.hid hs6; have HB6 := Lib.hid (HB5.out.grown hgr6 HB5.out.size (fun k hk => by cases hk; exact hgw)); clear hs6 hgr6 HS5))
        | (go_at_call 18; refine (HH.out _ HS6.out).mono ?_; rintro e w7 ⟨rfl, rfl⟩)
        | (go_at_call 20; refine (HC.out _ HS6.out).mono ?_; rintro e w8 ⟨rfl, rfl⟩))
      go_roundw
      case rel => exact ⟨k + 1, by omega, by go_num, by rw [← HX0.out]; exact HS6.out, HB6.out⟩
      case measure => simp [intOf]; omega
    · have hkN : (N : Int) ≤ (k : Int) := by omega
      have hml : (missF n (bitv fun _ => 0)).length = n := by rw [missF_none n _ fun i _ => bitv_zero i]; simp
      have HML := Lib.hid hml
      have HFD := Lib.hid (show decide (missF n (bitv fun _ => 0) = []) = false from decide_eq_false fun e => by rw [e] at hml; simp at hml; omega)
      clear hml
      go_wp2_with (first
        | (go_at_call 28; refine (missing_any g gw n _ _ HS.out (by omega)).mono ?_; rintro e w3 ⟨v, rfl, hr3, hb3⟩; obtain ⟨a3, c3, e3⟩ := hr3.shape; rw [HML.out] at e3; subst e3; have HB3 := Lib.hid (HB.out.trans (hb3.mono HB.out.size)); have HS3 := Lib.hid (HS.out.below hb3); clear hr3 hb3)
        | (go_at_call 21; refine (full_any g gw n _ _ HS3.out (by omega)).mono ?_; rintro e w4 ⟨rfl, hb4⟩; rw [HFD.out]))
      go_ret
      exact ⟨rfl, HB3.out.trans (hb4.mono HB3.out.size)⟩

set_option maxHeartbeats 1000000 in
theorem receiveBack_out (a : Option Addr) (k c : Nat) (n : Int) (w : World) (h : n < 1 ∨ 200 < n ∨ 100 < k) :
    Calls Try.prog 9 #[.int .i64 n, .slice a k c] w fun e w' => e = .returned (.bool true) ∧ Below w.heap.size w w' := by
  by_cases h1 : n < 1
  · clear h
    go_enter Try.func9, Try.ntmps9
    go_wp2_with (go_at_call 16; refine (alive23_any _).mono ?_; rintro e w1 ⟨rfl, hb1⟩)
    go_ret
    exact ⟨rfl, hb1⟩
  · by_cases h2 : 200 < n
    · clear h
      go_enter Try.func9, Try.ntmps9
      go_wp2_with (go_at_call 16; refine (alive23_any _).mono ?_; rintro e w1 ⟨rfl, hb1⟩)
      go_ret
      exact ⟨rfl, hb1⟩
    · have hz1 : ((100 : Int) < (k : Int)) = True := eq_true (by omega)
      clear h
      go_enter Try.func9, Try.ntmps9
      go_wp2_with (go_at_call 16; refine (alive23_any _).mono ?_; rintro e w1 ⟨rfl, hb1⟩)
      go_ret
      exact ⟨rfl, hb1⟩

theorem receiveBack_walk {w : World} (n : Int) (_hn : (Lit.int .i64 n).wf = true) (v : Value) (l : List Int) (hv : IRow w v l) (hw : ∀ x ∈ l, -9223372036854775808 ≤ x ∧ x ≤ 9223372036854775807) :
    Calls Try.prog 9 #[.int .i64 n, v] w fun e w' => e = .returned (.bool true) ∧ Below w.heap.size w w' := by
  obtain ⟨a, c, rfl⟩ := hv.shape
  by_cases h : n < 1 ∨ 200 < n ∨ 100 < l.length
  · exact receiveBack_out a _ c n w h
  · have := receiveBack_in a c l n.toNat w hv hw (by omega) (by omega) (by omega)
    rw [show ((n.toNat : Nat) : Int) = n by omega] at this
    exact this

end Go.Proofs.Ytdcndfcdjlpecaa
