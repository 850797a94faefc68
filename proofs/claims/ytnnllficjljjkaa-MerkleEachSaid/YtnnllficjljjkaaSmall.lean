/-
  The walks of Big, Join and Hex.
-/
import Derived.Test.YtnnllficjljjkaaEq
import Derived.Test.YtnnllficjljjkaaSum
import Derived.StillTailTactics
import Derived.Deep.RegionHeld3
import Derived.Deep.AppendLies
import Derived.WalkArith
import Derived.Outline
namespace Go.Proofs.Ytnnllficjljjkaa
open Go.RowKit

theorem BRows.shape {w : World} {v : Value} {l : List (List (BitVec 8))} (h : BRows w v l) : ∃ a c, v = .slice a l.length c := by obtain ⟨a, c, e, _⟩ := h; exact ⟨a, c, e⟩
theorem BRow.shape {w : World} {v : Value} {l : List (BitVec 8)} (h : BRow w v l) : ∃ a c, v = .slice a l.length c := by obtain ⟨a, c, e, _⟩ := h; exact ⟨a, c, e⟩

def bigB (l : List (List (BitVec 8))) : Bool := decide (30 < l.length) || l.any fun m => decide (1000 < m.length)

set_option maxHeartbeats 400000 in
theorem big_long (a : Option Addr) (n c : Nat) (w : World) (h : 30 < n) : Calls Try.prog 16 #[.slice a n c] w fun e w' => e = .returned (.bool true) ∧ w = w' := by
  have h1 : (30 : Int) < (n : Int) := by omega
  go_enter Try.func16, Try.ntmps16
  go_wp2
  go_ret
  exact ⟨rfl, rfl⟩

set_option maxHeartbeats 400000 in
theorem big_any (v : Value) (l : List (List (BitVec 8))) (w : World) (hv : BRows w v l) :
    Calls Try.prog 16 #[v] w fun e w' => e = .returned (.bool (bigB l)) ∧ w = w' := by
  obtain ⟨a, c, rfl, _, hp⟩ := hv
  by_cases h30 : 30 < l.length
  · have e : bigB l = true := by unfold bigB; rw [decide_eq_true h30]; rfl
    rw [e]
    exact big_long _ _ _ _ h30
  have hn : ((30 : Int) < (l.length : Int)) = False := by simp; omega
  have HT := Lib.hid (show ∀ k (h : k < l.length), 1000 < l[k].length → bigB l = true from fun k h hk => by
    unfold bigB
    rw [Bool.or_eq_true, List.any_eq_true]
    exact .inr ⟨_, List.getElem_mem h, decide_eq_true hk⟩)
  have HF := Lib.hid (show (∀ k (h : k < l.length), l[k].length ≤ 1000) → bigB l = false from fun h => by
    unfold bigB
    rw [Bool.or_eq_false_iff, List.any_eq_false]
    refine ⟨decide_eq_false (by omega), fun m hm => ?_⟩
    obtain ⟨i, hi, rfl⟩ := List.getElem_of_mem hm
    have := h i hi
    simp; omega)
  have HP := Lib.hid hp
  clear hp
  generalize bigB l = r at *
  go_enter Try.func16, Try.ntmps16
  go_wp2
  clear hn
  go_loop [3] (fun i => ∃ k : Nat, k ≤ l.length ∧ i = .int .i64 k ∧ Hid (∀ j (h : j < l.length), j < k → l[j].length ≤ 1000)) (fun i => l.length - (intOf i).toNat)
  case atStart => exact ⟨0, Nat.zero_le _, rfl, Lib.hid (fun _ _ h => absurd h (by omega))⟩
  case round =>
    obtain ⟨k, hk, rfl, HS⟩ := hrel
    by_cases hlt : k < l.length
    · obtain ⟨b, off, ha, hbl, hcells⟩ := HP.out (by omega)
      obtain ⟨vi, hvi, a2, c2, rfl, h7, h8⟩ := hcells k hlt
      have hk0 : (0 : Int) ≤ (k : Int) := by omega
      have hk1 : (k : Int) < (l.length : Int) := by omega
      rw [ha]
      clear hcells h7 h8
      have HTK := Lib.hid (HT.out k hlt)
      have HSK := Lib.hid (show l[k].length ≤ 1000 → ∀ j (h : j < l.length), j < k + 1 → l[j].length ≤ 1000 from fun hh j h hj => by
        by_cases e : j = k
        · subst e; exact hh
        · exact HS.out j h (by omega))
      generalize l[k].length = m at *
      by_cases hm : 1000 < m
      · have hm1 : (1000 : Int) < (m : Int) := by omega
        obtain rfl := HTK.out hm
        go_wp2
        go_ret
        exact ⟨rfl, rfl⟩
      · have hm1 : ((1000 : Int) < (m : Int)) = False := by simp; omega
        go_wp2
        go_round
        case rel => exact ⟨k + 1, by omega, by go_num, Lib.hid (HSK.out (by omega))⟩
        case measure => simp [intOf]; omega
    · obtain rfl := HF.out fun j h => HS.out j h (by omega)
      go_wp2
      go_ret
      exact ⟨rfl, rfl⟩


/-- The two digits of a byte. -/
def hexDig (n : Nat) : BitVec 8 := BitVec.ofNat 8 ([48, 49, 50, 51, 52, 53, 54, 55, 56, 57, 97, 98, 99, 100, 101, 102].getD n 0)
def hexB (l : List (BitVec 8)) : List (BitVec 8) := l.flatMap fun x => [hexDig (x.toNat / 16), hexDig (x.toNat % 16)]
theorem hexB_take (l : List (BitVec 8)) {k : Nat} (h : k < l.length) : hexB (l.take (k + 1)) = hexB (l.take k) ++ [hexDig (l[k].toNat / 16), hexDig (l[k].toNat % 16)] := by
  unfold hexB; rw [List.take_succ_eq_append_getElem h, List.flatMap_append]; rfl
theorem hexB_length (l : List (BitVec 8)) : (hexB l).length = 2 * l.length := by
  unfold hexB
  induction l with
  | nil => rfl
  | cons x l ih => simp only [List.flatMap_cons, List.length_append, ih, List.length_cons, List.length_nil]; omega
theorem hex_index (n : Nat) (h : n < 16) (w : World) : (Instr.index 9 (.string { data := #[48, 49, 50, 51, 52, 53, 54, 55, 56, 57, 97, 98, 99, 100, 101, 102] }) (.int .u8 n)).run Try.prog w = .ok (.int .u8 (B8 (hexDig n))) w := by
  have h' : n = 0 ∨ n = 1 ∨ n = 2 ∨ n = 3 ∨ n = 4 ∨ n = 5 ∨ n = 6 ∨ n = 7 ∨ n = 8 ∨ n = 9 ∨ n = 10 ∨ n = 11 ∨ n = 12 ∨ n = 13 ∨ n = 14 ∨ n = 15 := by omega
  rcases h' with rfl | rfl | rfl | rfl | rfl | rfl | rfl | rfl | rfl | rfl | rfl | rfl | rfl | rfl | rfl | rfl
  all_goals (show _ = _; kernel_rfl)
theorem B8_hi (x : BitVec 8) : B8 x / 16 = ((x.toNat / 16 : Nat) : Int) := by unfold B8; omega
theorem B8_lo (x : BitVec 8) : bits .and .u8 (B8 x) 15 = ((x.toNat % 16 : Nat) : Int) := by
  have := u8_and_nat x.toNat 15 x.isLt (by omega)
  have e : x.toNat &&& 15 = x.toNat % 16 := Nat.and_two_pow_sub_one_eq_mod x.toNat 4
  rw [e] at this
  exact this
theorem brow_two {w : World} {g c : Nat} (x y : BitVec 8) (h : w.heap[g]? = some (.cells #[.int .u8 (B8 x), .int .u8 (B8 y)] 5 (0, 0))) : BRow w (.slice (some ⟨g, 0, none⟩) 2 c) [x, y] :=
  ⟨_, c, rfl, (fun hc => by cases hc), fun _ => ⟨g, 0, rfl, (Array.getElem?_eq_some_iff.1 h).1, fun i hi => by
    have : i = 0 ∨ i = 1 := by simp at hi; omega
    rcases this with rfl | rfl
    all_goals (rw [cell_of_row w g _ _ _ _ h]; rfl)⟩⟩

set_option maxRecDepth 100000 in
set_option maxHeartbeats 400000 in
theorem hex_any (v : Value) (l : List (BitVec 8)) (w : World) (hv : BRow w v l) (hl : l.length ≤ 1000000000) :
    Calls Try.prog 17 #[v] w fun e w' => e = .returned (.string (strB (hexB l))) ∧ Below w.heap.size w w' := by
  obtain ⟨a, c, rfl, _, hp⟩ := hv
  have HP := Lib.hid hp
  clear hp
  go_enter Try.func17, Try.ntmps17
  go_wp2
  go_loopw [3, 4] (fun v i wr => ∃ k : Nat, k ≤ l.length ∧ i = .int .i64 k ∧ OwnB wr w.heap.size v (hexB (l.take k)) ∧ Below w.heap.size w wr) (fun _ i _ => l.length - (intOf i).toNat)
  case atStart => exact ⟨0, Nat.zero_le _, rfl, World.ownsRow_nil _ _ _ _, Below.refl _ _⟩
  case round =>
    obtain ⟨k, hk, rfl, hown, hbel⟩ := hrel
    have hsz := hbel.size
    have HLT := Lib.hid hown.lt
    have HOWN := Lib.hid hown
    have HBEL := Lib.hid hbel
    by_cases hlt : k < l.length
    · obtain ⟨b, off, ha, hbl, hcells⟩ := HP.out (by omega)
      have hci := (hbel.cell (p := ⟨b, off + k, none⟩) hbl).trans (hcells k hlt)
      have HT := Lib.hid (hexB_take l hlt)
      have hln : (hexB (l.take k)).length = 2 * k := by rw [hexB_length, List.length_take]; omega
      have HLN := Lib.hid hln
      have hk0 : (0 : Int) ≤ (k : Int) := by omega
      have hk1 : (k : Int) < (l.length : Int) := by omega
      rw [ha]
      clear hcells hown hbel hln
      generalize l[k] = x at *
      obtain ⟨x0, x1⟩ := B8_bd x
      have hhi := hex_index (x.toNat / 16) (by have := x.isLt; omega)
      have hlo := hex_index (x.toNat % 16) (by omega)
      rw [← B8_hi] at hhi
      rw [← B8_lo] at hlo
      go_wp2
      obtain ⟨i0, hi0, hz0, hz1, hz2⟩ := info_parts info_u8
      have hsz1 : (hexB (l.take k)).length ≤ 2000000000 := by have := HLN.out; omega
      have av : u3.ownBlock ≠ some b := fun c => by have := (HLT.out _ c).1; omega
      go_region_held3 (fun w' => w'.cell? ⟨b, off + k, none⟩ = some (.int .u8 (B8 x)))
        (first
          | go_keep
          | (rw [hgrow.cell_far _ (by simp; omega) (Ne.symm av)]; assumption))
        ((refine step_append_lies _ (by rfl) _ _ _ (by rfl) w.heap.size 5 i0 _ 1 1 Try.underlying22 hi0 hz0 hz1 hz2 rfl (by omega) u3 _ _ (by rfl) ((World.ownsRow.alloc HOWN.out _).drew)
            ⟨wr.heap.size, 0, none⟩ 2 2 [.int .u8 (B8 (hexDig (x.toNat / 16))), .int .u8 (B8 (hexDig (x.toNat % 16)))] (by rfl) (by rfl) (World.news_of_block (cs := #[.int .u8 (B8 (hexDig (x.toNat / 16))), .int .u8 (B8 (hexDig (x.toNat % 16)))]) (t := 5) (fr := (0, 0)) (heap_alloc_new wr _)) (by simp [Value.oneCell'])
            (by omega) (by unfold maxLen; omega) (by omega) (by simp; omega) (wr.heap.size + 1) (by simp) ?_; intro gg cap w3 hown3 hgrow hat hltg))
      all_goals
        have HB3 := Lib.hid (((HBEL.out.alloc hsz (.cells #[.int .u8 (B8 (hexDig (x.toNat / 16))), .int .u8 (B8 (hexDig (x.toNat % 16)))] 5)).drew).grown hgrow (by simp; omega) (fun k hk => (HLT.out k hk).1))
        have HO3 := Lib.hid (show OwnB w3 w.heap.size (.slice (some ⟨gg, 0, none⟩) ((hexB (l.take k)).length + 2) cap) (hexB (l.take (k + 1))) by
          unfold OwnB encB
          rw [HT.out, List.length_append, List.map_append]
          exact hown3)
        clear hown3 hgrow hhi hlo
        go_wp2
        go_roundw
        case rel => exact ⟨k + 1, by omega, by go_num, HO3.out, HB3.out⟩
        case measure => simp [intOf]; omega
    · have hrow : BRow wr u3 (hexB l) := by
        have := hown.brow
        rwa [List.take_of_length_le (by omega)] at this
      have hstr := run_string hrow Try.underlying22 Try.underlying5 Try.underlying9
      clear hown hbel hrow
      go_wp2
      go_ret
      exact ⟨rfl, HBEL.out⟩

end Go.Proofs.Ytnnllficjljjkaa
