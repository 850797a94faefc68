/-
  The walk of sha's take: it takes a byte in.
-/
import Derived.Test.YtnnllficjljjkaaTurn
import Derived.Test.YtnnllficjljjkaaHash
namespace Go.Proofs.Ytnnllficjljjkaa
open Go.RowKit

theorem stRow_setB {h : Nat → BitVec 32} {b : Nat → BitVec 8} {n i : Nat} {L : BitVec 64} (x : BitVec 8) (hi : i < 64) : row 138 (upd (stF h b n L) (72 + i) (.int .u8 (B8 x))) = stRow h (upd b i x) n L := row_congr fun j _ => by
  unfold upd stF
  by_cases e : j = 72 + i
  · subst e
    rw [if_pos rfl, if_neg (by omega), if_neg (by omega), if_pos (by omega)]
    simp
  · rw [if_neg e]
    by_cases h8 : j < 8
    · rw [if_pos h8, if_pos h8]
    · rw [if_neg h8, if_neg h8]
      by_cases h72 : j < 72
      · rw [if_pos h72, if_pos h72]
      · rw [if_neg h72, if_neg h72]
        by_cases h136 : j < 136
        · rw [if_pos h136, if_pos h136]
          show _ = Value.int .u8 (B8 (if j - 72 = i then x else b (j - 72)))
          rw [if_neg (by omega)]
        · rw [if_neg h136, if_neg h136]

theorem stRow_setN {h : Nat → BitVec 32} {b : Nat → BitVec 8} {n : Nat} {L : BitVec 64} (m : Nat) : row 138 (upd (stF h b n L) 136 (.int .i64 m)) = stRow h b m L := row_congr fun j _ => by
  unfold upd stF
  by_cases e : j = 136
  · subst e; simp
  · rw [if_neg e]; simp only [if_neg e]

theorem stRow_setL {h : Nat → BitVec 32} {b : Nat → BitVec 8} {n : Nat} {L : BitVec 64} (M : BitVec 64) : row 138 (upd (stF h b n L) 137 (.int .u64 (Q M))) = stRow h b n M := row_congr fun j _ => by
  unfold upd stF
  by_cases e : j = 137
  · subst e; simp
  · rw [if_neg e]
    by_cases h8 : j < 8
    · rw [if_pos h8, if_pos h8]
    · rw [if_neg h8, if_neg h8]
      by_cases h72 : j < 72
      · rw [if_pos h72, if_pos h72]
      · rw [if_neg h72, if_neg h72]
        by_cases h136 : j < 136
        · rw [if_pos h136, if_pos h136]
        · rw [if_neg h136, if_neg h136, if_pos (by omega), if_pos (by omega)]

theorem st_n {h : Nat → BitVec 32} {b : Nat → BitVec 8} {n : Nat} {L : BitVec 64} : stF h b n L 136 = .int .i64 n := by simp [stF]
theorem st_b {h : Nat → BitVec 32} {b : Nat → BitVec 8} {n i : Nat} {L : BitVec 64} (hi : i < 64) : stF h b n L (72 + i) = .int .u8 (B8 (b i)) := by
  unfold stF; rw [if_neg (by omega), if_neg (by omega), if_pos (by omega)]; simp
theorem st_h {h : Nat → BitVec 32} {b : Nat → BitVec 8} {n i : Nat} {L : BitVec 64} (hi : i < 8) : stF h b n L i = .int .u32 (U (h i)) := by
  unfold stF; rw [if_pos hi]
theorem st_L {h : Nat → BitVec 32} {b : Nat → BitVec 8} {n : Nat} {L : BitVec 64} : stF h b n L 137 = .int .u64 (Q L) := by simp [stF]

set_option maxRecDepth 100000 in
set_option maxHeartbeats 400000 in
theorem take_any (sb : Nat) (s : St) (x : BitVec 8) (L : BitVec 64) (w : World) (hn : s.n < 64) (hg : w.heap[sb]? = some (.cells (stRow s.h s.b s.n L) 50 (0, 0))) :
    Calls Try.prog 19 #[.pointer (some ⟨sb, 0, none⟩), .int .u8 (B8 x)] w fun e w' => e = .returned (.tuple #[]) ∧ w'.heap[sb]? = some (.cells (stRow (takeS s x).h (takeS s x).b (takeS s x).n L) 50 (0, 0)) ∧ w.grownBy w' (some sb) := by
  obtain ⟨h, b, n⟩ := s
  simp only at hn hg
  have hc : w.cell? ⟨sb, 136, none⟩ = some (.int .i64 n) := by rw [cell_row hg (by omega), st_n]
  have hb : w.cell? ⟨sb, 72 + n, none⟩ = some (.int .u8 (B8 (b n))) := by rw [cell_row hg (by omega), st_b hn]
  have hf : w.frozen? ⟨sb, 72 + n, none⟩ = false := frozen_of_row w _ _ _ _ hg
  have h0 : (0 : Int) ≤ (n : Int) := by omega
  have h1 : (n : Int) < 64 := by omega
  have hf2 : w.frozen? ⟨sb, 136, none⟩ = false := frozen_of_row w _ _ _ _ hg
  have hw1 : ∀ (m : Nat) (z : Int), z = m → ((w.setCell ⟨sb, 72 + n, none⟩ (.int .u8 (B8 x))).setCell ⟨sb, 136, none⟩ (.int .i64 z)).heap[sb]? = some (.cells (stRow h (upd b n x) m L) 50 (0, 0)) := by
    intro m z hz
    subst hz
    have e1 : (w.setCell ⟨sb, 72 + n, none⟩ (.int .u8 (B8 x))).heap[sb]? = some (.cells (stRow h (upd b n x) n L) 50 (0, 0)) := by
      rw [heap_set_row _ hg (by omega), stRow_setB x hn]
    rw [heap_set_row _ e1 (by omega), stRow_setN]
  have HW := Lib.hid hw1
  clear hg hw1
  by_cases h63 : n < 63
  · have ht : takeS ⟨h, b, n⟩ x = ⟨h, upd b n x, n + 1⟩ := by unfold takeS; rw [if_pos h63]
    rw [ht]
    clear ht
    have he : ((n : Int) + 1 == 64) = false := by simp; omega
    go_enter Try.func19, Try.ntmps19
    go_wp2_with fail
    go_still_tail 9, (by kernel_rfl)
    change wpList _ _ _ _ _ w.drew
    go_wp2_with fail
    go_end0
    have hH := HW.out (n + 1) ((n : Int) + 1) (by omega)
    refine ⟨rfl, hH, ?_⟩
    refine grown_drew ?_
    refine grown_setCell ?_ (.inr rfl) _
    exact grown_setCell (grown_refl _ _) (.inr rfl) _
  · obtain rfl : n = 63 := by omega
    have ht : takeS ⟨h, b, 63⟩ x = ⟨block K256 h (upd b 63 x), upd b 63 x, 0⟩ := by unfold takeS; rw [if_neg (by simp)]
    rw [ht]
    clear ht
    go_enter Try.func19, Try.ntmps19
    go_wp2_with fail
    go_still_tail 9, (by kernel_rfl)
    change wpList _ _ _ _ _ w.drew
    go_wp2_with fail
    have hH : (((w.setCell ⟨sb, 135, none⟩ (.int .u8 (B8 x))).setCell ⟨sb, 136, none⟩ (.int .i64 64)).drew).heap[sb]? = some (.cells (stRow h (upd b 63 x) 64 L) 50 (0, 0)) := HW.out 64 64 rfl
    refine (turn_any sb h (upd b 63 x) 64 L _ hH).mono ?_
    rintro e w1 ⟨rfl, hs, hg⟩
    have hc1 : w1.cell? ⟨sb, 136, none⟩ = some (.int .i64 64) := by rw [cell_row hs (by omega), st_n]; rfl
    have hf1 : w1.frozen? ⟨sb, 136, none⟩ = false := frozen_of_row w1 _ _ _ _ hs
    have HS := Lib.hid hs
    clear hs
    go_wp2
    go_end0
    refine ⟨rfl, ?_, ?_⟩
    · rw [heap_set_row _ HS.out (by omega)]
      exact congrArg (fun r => some (Obj.cells r 50 (0, 0))) (stRow_setN 0)
    · refine grown_setCell (grown_trans ?_ hg) (.inr rfl) _
      refine grown_drew ?_
      refine grown_setCell ?_ (.inr rfl) _
      exact grown_setCell (grown_refl _ _) (.inr rfl) _

end Go.Proofs.Ytnnllficjljjkaa
