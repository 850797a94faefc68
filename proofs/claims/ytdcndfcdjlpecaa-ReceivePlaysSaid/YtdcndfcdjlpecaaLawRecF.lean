/-
  The walk of the law ReceiveFills.
-/
import Derived.Test.YtdcndfcdjlpecaaLawRecB
namespace Go.Proofs.Ytdcndfcdjlpecaa
open Go.RowKit
set_option linter.unusedVariables false
set_option linter.unusedSimpArgs false

/-- No bit lies behind the last block. -/
def InvS (n : Nat) (x : Nat → BitVec 64) : Prop := ∀ i, n ≤ i → bitv x i = false
theorem cntB_tail (b : Nat → Bool) (n : Nat) (h : ∀ i, n ≤ i → b i = false) : ∀ d, cntB b (n + d) = cntB b n
  | 0 => rfl
  | d + 1 => by rw [← Nat.add_assoc]; simp only [cntB]; rw [cntB_tail b n h d, h (n + d) (by omega)]; rfl
theorem cntW_set {n : Nat} {x : Nat → BitVec 64} (h : InvS n x) : cntW x (wds n) = cntB (bitv x) n := by
  rw [cntW_bits, show 64 * wds n = n + (64 * wds n - n) by unfold wds; omega]
  exact cntB_tail _ n h _
theorem cntB_upd (b c : Nat → Bool) (k : Nat) (hk : c k = true) (h : ∀ j, j ≠ k → c j = b j) : ∀ n, cntB c n = cntB b n + (if k < n ∧ b k = false then 1 else 0)
  | 0 => by simp [cntB]
  | n + 1 => by
    simp only [cntB]
    rw [cntB_upd b c k hk h n]
    by_cases e : n = k
    · subst e
      rw [hk, if_neg (by omega)]
      cases hb : b n <;> simp
    · rw [h n e]
      by_cases h1 : k < n ∧ b k = false
      · rw [if_pos h1, if_pos ⟨by omega, h1.2⟩]; omega
      · rw [if_neg h1, if_neg (fun h2 => h1 ⟨by omega, h2.2⟩)]; omega
theorem full_cnt (n : Nat) (x : Nat → BitVec 64) : decide (missF n (bitv x) = []) = ((cntB (bitv x) n : Int) == (n : Int)) := by
  have h := missF_length (bitv x) n
  by_cases e : missF n (bitv x) = []
  · rw [decide_eq_true e]
    rw [e] at h
    have : cntB (bitv x) n = n := by simpa using h
    rw [this]; simp
  · rw [decide_eq_false e]
    have h1 : 0 < (missF n (bitv x)).length := by
      rcases Nat.eq_zero_or_pos (missF n (bitv x)).length with h0 | h0
      · exact absurd (List.eq_nil_of_length_eq_zero h0) e
      · exact h0
    exact (beq_eq_false_iff_ne.2 (by omega)).symm
theorem bitv_put (n : Nat) (x : Nat → BitVec 64) (k : Nat) (hk : k < n) (j : Nat) : bitv (putX n x (k : Int) true) j = if j = k then true else bitv x j := by
  unfold putX
  rw [putB_in hk]
  cases hb : bitv x k with
  | true =>
    rw [if_neg (by simp)]
    by_cases e : j = k
    · subst e; rw [if_pos rfl, hb]
    · rw [if_neg e]
  | false =>
    rw [if_pos (by simp), Int.toNat_natCast, bitv_flip]
    by_cases e : j = k
    · subst e; rw [if_pos rfl, if_pos rfl, hb]; rfl
    · rw [if_neg e, if_neg e]
theorem put_facts (n : Nat) (x : Nat → BitVec 64) (k : Nat) (hk : k < n) (hinv : InvS n x) : InvS n (putX n x (k : Int) true) ∧ cntB (bitv (putX n x (k : Int) true)) n = cntB (bitv x) n + (if bitv x k = false then 1 else 0) := by
  refine ⟨fun i hi => ?_, ?_⟩
  · rw [bitv_put n x k hk, if_neg (by omega)]; exact hinv i hi
  · rw [cntB_upd (bitv x) _ k (by rw [bitv_put n x k hk, if_pos rfl]) (fun j hj => by rw [bitv_put n x k hk, if_neg hj]) n]
    by_cases h : bitv x k = false
    · rw [if_pos ⟨hk, h⟩, if_pos h]
    · rw [if_neg (fun h2 => h h2.2), if_neg h]
theorem i64_and1023 (a : Int) (h : -9223372036854775808 ≤ a ∧ a ≤ 9223372036854775807) : bits .and .i64 a 1023 = ((a % 1024).toNat : Int) := by
  show IntKind.i64.wrap ((BitVec.ofInt 64 a &&& BitVec.ofInt 64 1023).toNat : Int) = _
  have h1 : (BitVec.ofInt 64 1023).toNat = 1023 := by decide
  have h2 : (BitVec.ofInt 64 a).toNat = (a % 18446744073709551616).toNat := by rw [BitVec.toNat_ofInt]; rfl
  have h3 : ∀ m : Nat, m &&& 1023 = m % 1024 := fun m => Nat.and_two_pow_sub_one_eq_mod m 10
  rw [BitVec.toNat_and, h1, h2, h3, IntWalk.i64_in _ (by omega)]
  omega

set_option maxRecDepth 100000 in
set_option maxHeartbeats 4000000 in
theorem receiveFills_in (a : Option Addr) (c' : Nat) (l : List Int) (n : Nat) (w : World) (hv : IRow w (.slice a l.length c') l) (hw : ∀ x ∈ l, -9223372036854775808 ≤ x ∧ x ≤ 9223372036854775807) (h1 : 1 ≤ n) (hn : n ≤ 64) (hl : l.length ≤ 200) :
    Calls Try.prog 7 #[.int .i64 (n : Int), .slice a l.length c'] w fun e w' => e = .returned (.bool true) ∧ Below w.heap.size w w' := by
  obtain ⟨N, hN⟩ : ∃ N, N = l.length := ⟨_, rfl⟩
  have HNL := Lib.hid hN
  rw [← hN] at hv hl ⊢
  have hn1 : (1 : Int) ≤ (n : Int) := by omega
  have hn2 : (n : Int) ≤ 64 := by omega
  have hN2 : (N : Int) ≤ 200 := by omega
  have hz1 : ((200 : Int) < (N : Int)) = False := eq_false (by omega)
  have HV := Lib.hid hv
  have HW := Lib.hid hw
  have HL := Lib.hid hl
  have HNW := Lib.hid (show ∀ w, Calls Try.prog 17 #[.int .i64 (n : Int)] w fun e w' => ∃ g gw, e = .returned (.pointer (some ⟨g, 0, none⟩)) ∧ SetAt w' g gw n (fun _ => 0) ∧ w.heap.size ≤ g ∧ w.heap.size ≤ gw ∧ Below w.heap.size w w' from fun w => by
    have := new_any (n : Int) w
    rw [show clampN (n : Int) = n by unfold clampN; omega] at this
    exact this)
  clear hv hw hl hN
  go_enter Try.func7, Try.ntmps7
  go_wp2_with (first
    | (go_at_call 16; refine (alive23_any _).mono ?_; rintro e w1 ⟨rfl, hb1⟩)
    | (go_at_call 17; refine (HNW.out _).mono ?_; rintro e w2 ⟨g, gw, rfl, hs2, hg1, hg2, hb2⟩; have HB2 := Lib.hid (hb1.trans (hb2.mono hb1.size)); have HS2 := Lib.hid hs2; clear hs2 hb2))
  have hgw : w.heap.size ≤ gw := Nat.le_trans hb1.size hg2
  have hvw : ∀ wr, Below w.heap.size w wr → IRow wr (.slice a N c') l := fun wr hb => HV.out.below hb
  have HVW := Lib.hid hvw
  have HI0 := Lib.hid (show InvS n (fun _ => 0) from fun i _ => bitv_zero i)
  have HC0 := Lib.hid (show cntB (bitv fun _ => 0) n = 0 from by rw [← cntW_set HI0.out, cntW_zero])
  clear hvw hb1 hg1 hg2
  go_loopw [7, 8] (fun s i wr => ∃ (k : Nat) (x : Nat → BitVec 64), k ≤ N + n ∧ i = .int .i64 k ∧ s = .int .i64 (cntB (bitv x) n : Int) ∧ SetAt wr g gw n x ∧ InvS n x ∧ (∀ j, j < k - N → bitv x j = true) ∧ Below w.heap.size w wr) (fun _ i _ => N + n - (intOf i).toNat)
  case atStart => exact ⟨0, fun _ => 0, Nat.zero_le _, rfl, by rw [HC0.out]; rfl, HS2.out, HI0.out, fun j hj => absurd hj (by omega), HB2.out⟩
  case round =>
    clear HS2 HB2 HI0 HC0
    obtain ⟨k, x, hk, rfl, rfl, hs, hinv, hall, hb⟩ := hrel
    have HS := Lib.hid hs
    have HB := Lib.hid hb
    clear hs hb
    have hk0 : (0 : Int) ≤ (k : Int) := by omega
    by_cases hlt : k < N + n
    · have hlt1 : (k : Int) < (N : Int) + (n : Int) := by omega
      obtain ⟨c, hcx⟩ : ∃ c, c = cntB (bitv x) n := ⟨_, rfl⟩
      rw [← hcx]
      by_cases hkN : k < N
      · have hkN1 : (k : Int) < (N : Int) := by omega
        have hkl : k < l.length := by rw [← HNL.out]; exact hkN
        obtain ⟨b0, off, rfl, hbl, hc⟩ := (HVW.out wr HB.out).at (by omega)
        have hcc := hc k hkl
        have hx := HW.out (l[k]'hkl) (List.getElem_mem hkl)
        obtain ⟨y, hy⟩ : ∃ y, y = l[k]'hkl := ⟨_, rfl⟩
        rw [← hy] at hcc hx
        clear hc hy hkl
        obtain ⟨q, hq⟩ : ∃ q, q = (y % 1024).toNat := ⟨_, rfl⟩
        have hand := i64_and1023 y hx
        rw [← hq] at hand
        have hql : q < 1024 := by omega
        have hnn : ¬ n = 0 := by omega
        have hnn2 : ¬ ((n : Int) = 0) := by omega
        obtain ⟨b, hb⟩ : ∃ b, b = q % n := ⟨_, rfl⟩
        have HBN := Lib.hid (show b < n by rw [hb]; exact Nat.mod_lt q (by omega))
        have hkv : ((b : Nat) : Int) = (q : Int) % (n : Int) := by rw [hb]; exact Int.natCast_emod q n
        obtain ⟨x1, hx1⟩ : ∃ x1, x1 = putX n x (b : Int) true := ⟨_, rfl⟩
        obtain ⟨hinv1, hc1⟩ := put_facts n x b HBN.out hinv
        have hall1 : ∀ j, j < (k + 1) - N → bitv x1 j = true := fun j hj => absurd hj (by omega)
        rw [← hx1] at hinv1 hc1
        rw [← hcx] at hc1
        clear hq hx hbl hb
        cases hwas : bitv x b with
        | true =>
        rw [hwas] at hc1
        replace hc1 : cntB (bitv x1) n = c := by simpa using hc1

        have HH := Lib.hid (show ∀ w, SetAt w g gw n x → Calls Try.prog 18 #[.pointer (some ⟨g, 0, none⟩), .int .i64 ((q : Int) % (n : Int))] w fun e w' => e = .returned (.bool true) ∧ w = w' from fun w h => by
          have := has_in g gw n b x w h HBN.out (by omega)
          rw [hwas, hkv] at this
          exact this)
        have HP := Lib.hid (show ∀ w, SetAt w g gw n x → Calls Try.prog 19 #[.pointer (some ⟨g, 0, none⟩), .int .i64 ((q : Int) % (n : Int))] w fun e w' => e = .returned (.bool false) ∧ SetAt w' g gw n x1 ∧ w.grownBy w' (some gw) from fun w h => by
          have := putc_any g gw n ((b : Nat) : Int) x w h (by omega)
          rw [← hx1, putB_in HBN.out, hwas, hkv] at this
          exact this)
        have HC := Lib.hid (show ∀ w, SetAt w g gw n x1 → Calls Try.prog 20 #[.pointer (some ⟨g, 0, none⟩)] w fun e w' => e = .returned (.int .i64 (c : Int)) ∧ w = w' from fun w h => by
          have := count_any g gw n x1 w h (by omega)
          rw [cntW_set hinv1, hc1] at this
          exact this)
        have HF := Lib.hid (show ∀ w, SetAt w g gw n x1 → Calls Try.prog 21 #[.pointer (some ⟨g, 0, none⟩)] w fun e w' => e = .returned (.bool ((c : Int) == (n : Int))) ∧ Below w.heap.size w w' from fun w h => by
          have := full_any g gw n x1 w h (by omega)
          rw [full_cnt, hc1] at this
          exact this)
        have hcn : (c : Int) ≤ (n : Int) := by have := cntB_le (bitv x) n; omega
        have hc0 : (0 : Int) ≤ (c : Int) := by omega
        have HC1 := Lib.hid hc1
        have HI1 := Lib.hid hinv1
        have HA1 := Lib.hid hall1
        clear hx1 hc1 hinv1 hall1 hkv hwas hcx
        go_wp2_with (first
          | (go_at_call 18; refine (HH.out _ HS.out).mono ?_; rintro e w3 ⟨rfl, rfl⟩)
          | (go_at_call 19; refine (HP.out _ HS.out).mono ?_; rintro e w4 ⟨rfl, hs4, hgr4⟩; have HS4 := Lib.hid hs4; have HB4 := Lib.hid (HB.out.grown hgr4 HB.out.size (fun k hk => by cases hk; exact hgw)); clear hs4 hgr4)
          | (go_at_call 20; refine (HC.out _ HS4.out).mono ?_; rintro e w5 ⟨rfl, rfl⟩)
          | (go_at_call 21; refine (HF.out _ HS4.out).mono ?_; rintro e w6 ⟨rfl, hb6⟩; have HB6 := Lib.hid (HB4.out.trans (hb6.mono HB4.out.size)); have HS6 := Lib.hid (HS4.out.below hb6); clear hb6))
        go_roundw
        case rel => exact ⟨k + 1, x1, by omega, by go_num, by rw [HC1.out], HS6.out, HI1.out, HA1.out, HB6.out⟩
        case measure => simp [intOf]; omega

        | false =>
        rw [hwas] at hc1
        replace hc1 : ((cntB (bitv x1) n : Nat) : Int) = (c : Int) + 1 := by rw [hc1]; simp

        have HH := Lib.hid (show ∀ w, SetAt w g gw n x → Calls Try.prog 18 #[.pointer (some ⟨g, 0, none⟩), .int .i64 ((q : Int) % (n : Int))] w fun e w' => e = .returned (.bool false) ∧ w = w' from fun w h => by
          have := has_in g gw n b x w h HBN.out (by omega)
          rw [hwas, hkv] at this
          exact this)
        have HP := Lib.hid (show ∀ w, SetAt w g gw n x → Calls Try.prog 19 #[.pointer (some ⟨g, 0, none⟩), .int .i64 ((q : Int) % (n : Int))] w fun e w' => e = .returned (.bool true) ∧ SetAt w' g gw n x1 ∧ w.grownBy w' (some gw) from fun w h => by
          have := putc_any g gw n ((b : Nat) : Int) x w h (by omega)
          rw [← hx1, putB_in HBN.out, hwas, hkv] at this
          exact this)
        have HC := Lib.hid (show ∀ w, SetAt w g gw n x1 → Calls Try.prog 20 #[.pointer (some ⟨g, 0, none⟩)] w fun e w' => e = .returned (.int .i64 ((c : Int) + 1)) ∧ w = w' from fun w h => by
          have := count_any g gw n x1 w h (by omega)
          rw [cntW_set hinv1, hc1] at this
          exact this)
        have HF := Lib.hid (show ∀ w, SetAt w g gw n x1 → Calls Try.prog 21 #[.pointer (some ⟨g, 0, none⟩)] w fun e w' => e = .returned (.bool (((c : Int) + 1) == (n : Int))) ∧ Below w.heap.size w w' from fun w h => by
          have := full_any g gw n x1 w h (by omega)
          rw [full_cnt, hc1] at this
          exact this)
        have hcn : (c : Int) ≤ (n : Int) := by have := cntB_le (bitv x) n; omega
        have hc0 : (0 : Int) ≤ (c : Int) := by omega
        have HC1 := Lib.hid hc1
        have HI1 := Lib.hid hinv1
        have HA1 := Lib.hid hall1
        clear hx1 hc1 hinv1 hall1 hkv hwas hcx
        go_wp2_with (first
          | (go_at_call 18; refine (HH.out _ HS.out).mono ?_; rintro e w3 ⟨rfl, rfl⟩)
          | (go_at_call 19; refine (HP.out _ HS.out).mono ?_; rintro e w4 ⟨rfl, hs4, hgr4⟩; have HS4 := Lib.hid hs4; have HB4 := Lib.hid (HB.out.grown hgr4 HB.out.size (fun k hk => by cases hk; exact hgw)); clear hs4 hgr4)
          | (go_at_call 20; refine (HC.out _ HS4.out).mono ?_; rintro e w5 ⟨rfl, rfl⟩)
          | (go_at_call 21; refine (HF.out _ HS4.out).mono ?_; rintro e w6 ⟨rfl, hb6⟩; have HB6 := Lib.hid (HB4.out.trans (hb6.mono HB4.out.size)); have HS6 := Lib.hid (HS4.out.below hb6); clear hb6))
        go_roundw
        case rel => exact ⟨k + 1, x1, by omega, by go_num, by rw [HC1.out], HS6.out, HI1.out, HA1.out, HB6.out⟩
        case measure => simp [intOf]; omega

      · have hkN1 : (N : Int) ≤ (k : Int) := by omega
        obtain ⟨b, hb⟩ : ∃ b, b = k - N := ⟨_, rfl⟩
        have HBN := Lib.hid (show b < n by omega)
        have hkv : ((b : Nat) : Int) = (k : Int) - (N : Int) := by omega
        obtain ⟨x1, hx1⟩ : ∃ x1, x1 = putX n x (b : Int) true := ⟨_, rfl⟩
        obtain ⟨hinv1, hc1⟩ := put_facts n x b HBN.out hinv
        have hall1 : ∀ j, j < (k + 1) - N → bitv x1 j = true := fun j hj => by
          rw [hx1, bitv_put n x b HBN.out]
          by_cases e : j = b
          · rw [if_pos e]
          · rw [if_neg e]; exact hall j (by omega)
        rw [← hx1] at hinv1 hc1
        rw [← hcx] at hc1
        clear hb
        cases hwas : bitv x b with
        | true =>
        rw [hwas] at hc1
        replace hc1 : cntB (bitv x1) n = c := by simpa using hc1

        have HH := Lib.hid (show ∀ w, SetAt w g gw n x → Calls Try.prog 18 #[.pointer (some ⟨g, 0, none⟩), .int .i64 ((k : Int) - (N : Int))] w fun e w' => e = .returned (.bool true) ∧ w = w' from fun w h => by
          have := has_in g gw n b x w h HBN.out (by omega)
          rw [hwas, hkv] at this
          exact this)
        have HP := Lib.hid (show ∀ w, SetAt w g gw n x → Calls Try.prog 19 #[.pointer (some ⟨g, 0, none⟩), .int .i64 ((k : Int) - (N : Int))] w fun e w' => e = .returned (.bool false) ∧ SetAt w' g gw n x1 ∧ w.grownBy w' (some gw) from fun w h => by
          have := putc_any g gw n ((b : Nat) : Int) x w h (by omega)
          rw [← hx1, putB_in HBN.out, hwas, hkv] at this
          exact this)
        have HC := Lib.hid (show ∀ w, SetAt w g gw n x1 → Calls Try.prog 20 #[.pointer (some ⟨g, 0, none⟩)] w fun e w' => e = .returned (.int .i64 (c : Int)) ∧ w = w' from fun w h => by
          have := count_any g gw n x1 w h (by omega)
          rw [cntW_set hinv1, hc1] at this
          exact this)
        have HF := Lib.hid (show ∀ w, SetAt w g gw n x1 → Calls Try.prog 21 #[.pointer (some ⟨g, 0, none⟩)] w fun e w' => e = .returned (.bool ((c : Int) == (n : Int))) ∧ Below w.heap.size w w' from fun w h => by
          have := full_any g gw n x1 w h (by omega)
          rw [full_cnt, hc1] at this
          exact this)
        have hcn : (c : Int) ≤ (n : Int) := by have := cntB_le (bitv x) n; omega
        have hc0 : (0 : Int) ≤ (c : Int) := by omega
        have HC1 := Lib.hid hc1
        have HI1 := Lib.hid hinv1
        have HA1 := Lib.hid hall1
        clear hx1 hc1 hinv1 hall1 hkv hwas hcx
        go_wp2_with (first
          | (go_at_call 18; refine (HH.out _ HS.out).mono ?_; rintro e w3 ⟨rfl, rfl⟩)
          | (go_at_call 19; refine (HP.out _ HS.out).mono ?_; rintro e w4 ⟨rfl, hs4, hgr4⟩; have HS4 := Lib.hid hs4; have HB4 := Lib.hid (HB.out.grown hgr4 HB.out.size (fun k hk => by cases hk; exact hgw)); clear hs4 hgr4)
          | (go_at_call 20; refine (HC.out _ HS4.out).mono ?_; rintro e w5 ⟨rfl, rfl⟩)
          | (go_at_call 21; refine (HF.out _ HS4.out).mono ?_; rintro e w6 ⟨rfl, hb6⟩; have HB6 := Lib.hid (HB4.out.trans (hb6.mono HB4.out.size)); have HS6 := Lib.hid (HS4.out.below hb6); clear hb6))
        go_roundw
        case rel => exact ⟨k + 1, x1, by omega, by go_num, by rw [HC1.out], HS6.out, HI1.out, HA1.out, HB6.out⟩
        case measure => simp [intOf]; omega

        | false =>
        rw [hwas] at hc1
        replace hc1 : ((cntB (bitv x1) n : Nat) : Int) = (c : Int) + 1 := by rw [hc1]; simp

        have HH := Lib.hid (show ∀ w, SetAt w g gw n x → Calls Try.prog 18 #[.pointer (some ⟨g, 0, none⟩), .int .i64 ((k : Int) - (N : Int))] w fun e w' => e = .returned (.bool false) ∧ w = w' from fun w h => by
          have := has_in g gw n b x w h HBN.out (by omega)
          rw [hwas, hkv] at this
          exact this)
        have HP := Lib.hid (show ∀ w, SetAt w g gw n x → Calls Try.prog 19 #[.pointer (some ⟨g, 0, none⟩), .int .i64 ((k : Int) - (N : Int))] w fun e w' => e = .returned (.bool true) ∧ SetAt w' g gw n x1 ∧ w.grownBy w' (some gw) from fun w h => by
          have := putc_any g gw n ((b : Nat) : Int) x w h (by omega)
          rw [← hx1, putB_in HBN.out, hwas, hkv] at this
          exact this)
        have HC := Lib.hid (show ∀ w, SetAt w g gw n x1 → Calls Try.prog 20 #[.pointer (some ⟨g, 0, none⟩)] w fun e w' => e = .returned (.int .i64 ((c : Int) + 1)) ∧ w = w' from fun w h => by
          have := count_any g gw n x1 w h (by omega)
          rw [cntW_set hinv1, hc1] at this
          exact this)
        have HF := Lib.hid (show ∀ w, SetAt w g gw n x1 → Calls Try.prog 21 #[.pointer (some ⟨g, 0, none⟩)] w fun e w' => e = .returned (.bool (((c : Int) + 1) == (n : Int))) ∧ Below w.heap.size w w' from fun w h => by
          have := full_any g gw n x1 w h (by omega)
          rw [full_cnt, hc1] at this
          exact this)
        have hcn : (c : Int) ≤ (n : Int) := by have := cntB_le (bitv x) n; omega
        have hc0 : (0 : Int) ≤ (c : Int) := by omega
        have HC1 := Lib.hid hc1
        have HI1 := Lib.hid hinv1
        have HA1 := Lib.hid hall1
        clear hx1 hc1 hinv1 hall1 hkv hwas hcx
        go_wp2_with (first
          | (go_at_call 18; refine (HH.out _ HS.out).mono ?_; rintro e w3 ⟨rfl, rfl⟩)
          | (go_at_call 19; refine (HP.out _ HS.out).mono ?_; rintro e w4 ⟨rfl, hs4, hgr4⟩; have HS4 := Lib.hid hs4; have HB4 := Lib.hid (HB.out.grown hgr4 HB.out.size (fun k hk => by cases hk; exact hgw)); clear hs4 hgr4)
          | (go_at_call 20; refine (HC.out _ HS4.out).mono ?_; rintro e w5 ⟨rfl, rfl⟩)
          | (go_at_call 21; refine (HF.out _ HS4.out).mono ?_; rintro e w6 ⟨rfl, hb6⟩; have HB6 := Lib.hid (HB4.out.trans (hb6.mono HB4.out.size)); have HS6 := Lib.hid (HS4.out.below hb6); clear hb6))
        go_roundw
        case rel => exact ⟨k + 1, x1, by omega, by go_num, by rw [HC1.out], HS6.out, HI1.out, HA1.out, HB6.out⟩
        case measure => simp [intOf]; omega

    · obtain rfl : k = N + n := by omega
      have hcast : ((N + n : Nat) : Int) = (N : Int) + (n : Int) := by omega
      rw [hcast]
      have hms : missF n (bitv x) = [] := (missF_skip (i := 0) (Nat.zero_le n) fun j _ hj => hall j (by omega)).trans rfl
      have HF := Lib.hid (show ∀ w, SetAt w g gw n x → Calls Try.prog 21 #[.pointer (some ⟨g, 0, none⟩)] w fun e w' => e = .returned (.bool true) ∧ Below w.heap.size w w' from fun w h => by
        have := full_any g gw n x w h (by omega)
        rw [decide_eq_true hms] at this
        exact this)
      have hp1 : putB n x (n : Int) true = false := by unfold putB; rw [decide_eq_false (by omega)]; rfl
      have hp2 : putB n x (-1) true = false := by unfold putB; rw [decide_eq_false (by omega)]; rfl
      have HP1 := Lib.hid (show ∀ w, SetAt w g gw n x → Calls Try.prog 19 #[.pointer (some ⟨g, 0, none⟩), .int .i64 (n : Int)] w fun e w' => e = .returned (.bool false) ∧ SetAt w' g gw n x ∧ w.grownBy w' (some gw) from fun w h => by
        have := putc_any g gw n (n : Int) x w h (by omega)
        unfold putX at this
        rw [hp1] at this
        exact this)
      have HP2 := Lib.hid (show ∀ w, SetAt w g gw n x → Calls Try.prog 19 #[.pointer (some ⟨g, 0, none⟩), .int .i64 (-1)] w fun e w' => e = .returned (.bool false) ∧ SetAt w' g gw n x ∧ w.grownBy w' (some gw) from fun w h => by
        have := putc_any g gw n (-1) x w h (by omega)
        unfold putX at this
        rw [hp2] at this
        exact this)
      clear hms hp1 hp2 hall hinv
      go_wp2_with (first
        | (go_at_call 21; refine (HF.out _ HS.out).mono ?_; rintro e w6 ⟨rfl, hb6⟩; have HB6 := Lib.hid (HB.out.trans (hb6.mono HB.out.size)); have HS6 := Lib.hid (HS.out.below hb6); clear hb6)
        | (go_at_call 19; first
          | (refine (HP1.out _ HS6.out).mono ?_; rintro e w7 ⟨rfl, hs7, hgr7⟩; have HB7 := Lib.hid (HB6.out.grown hgr7 HB6.out.size (fun k hk => by cases hk; exact hgw)); have HS7 := Lib.hid hs7; clear hs7 hgr7)
          | (refine (HP2.out _ HS7.out).mono ?_; rintro e w8 ⟨rfl, hs8, hgr8⟩; have HB8 := Lib.hid (HB7.out.grown hgr8 HB7.out.size (fun k hk => by cases hk; exact hgw)); clear hs8 hgr8)))
      go_ret
      exact ⟨rfl, HB8.out⟩

set_option maxHeartbeats 1000000 in
theorem receiveFills_out (a : Option Addr) (k c : Nat) (n : Int) (w : World) (h : n < 1 ∨ 64 < n ∨ 200 < k) :
    Calls Try.prog 7 #[.int .i64 n, .slice a k c] w fun e w' => e = .returned (.bool true) ∧ Below w.heap.size w w' := by
  by_cases h1 : n < 1
  · clear h
    go_enter Try.func7, Try.ntmps7
    go_wp2_with (go_at_call 16; refine (alive23_any _).mono ?_; rintro e w1 ⟨rfl, hb1⟩)
    go_ret
    exact ⟨rfl, hb1⟩
  · by_cases h2 : 64 < n
    · clear h
      go_enter Try.func7, Try.ntmps7
      go_wp2_with (go_at_call 16; refine (alive23_any _).mono ?_; rintro e w1 ⟨rfl, hb1⟩)
      go_ret
      exact ⟨rfl, hb1⟩
    · have hz1 : ((200 : Int) < (k : Int)) = True := eq_true (by omega)
      clear h
      go_enter Try.func7, Try.ntmps7
      go_wp2_with (go_at_call 16; refine (alive23_any _).mono ?_; rintro e w1 ⟨rfl, hb1⟩)
      go_ret
      exact ⟨rfl, hb1⟩
theorem receiveFills_walk {w : World} (n : Int) (_hn : (Lit.int .i64 n).wf = true) (v : Value) (l : List Int) (hv : IRow w v l) (hw : ∀ x ∈ l, -9223372036854775808 ≤ x ∧ x ≤ 9223372036854775807) :
    Calls Try.prog 7 #[.int .i64 n, v] w fun e w' => e = .returned (.bool true) ∧ Below w.heap.size w w' := by
  obtain ⟨a, c, rfl⟩ := hv.shape
  by_cases h : n < 1 ∨ 64 < n ∨ 200 < l.length
  · exact receiveFills_out a _ c n w h
  · have := receiveFills_in a c l n.toNat w hv hw (by omega) (by omega) (by omega)
    rw [show ((n.toNat : Nat) : Int) = n by omega] at this
    exact this

end Go.Proofs.Ytdcndfcdjlpecaa
