/-
  The plain law of sums of tolls: the sum of a list goes by the sums of its numbers, capped, whatever the order. No program in sight.
-/
import Derived.Test.YtdhhkhcgbgofoaaLawA
namespace Go.Proofs.Ytdhhkhcgbgofoaa

def totE (l : List (Nat × Nat)) : Nat := (l.map fun c => tE c.1 c.2).sum
def totP (l : List (Nat × Nat)) : Nat := (l.map fun c => tP c.1 c.2).sum

theorem totE_append (a b : List (Nat × Nat)) : totE (a ++ b) = totE a + totE b := by unfold totE; rw [List.map_append, List.sum_append]
theorem totP_append (a b : List (Nat × Nat)) : totP (a ++ b) = totP a + totP b := by unfold totP; rw [List.map_append, List.sum_append]

theorem fold_tot : ∀ (l : List (Nat × Nat)) (s : Nat × Nat), s.1 ≤ 1099511627776 → s.2 ≤ 1099511627776 →
    l.foldl step s = (min (s.1 + totE l) 1099511627776, min (s.2 + totP l) 1099511627776)
  | [], s, h1, h2 => by
    obtain ⟨x, y⟩ := s
    simp only at h1 h2
    simp only [List.foldl_nil, totE, totP, List.map_nil, List.sum_nil, Nat.add_zero]
    rw [Nat.min_eq_left h1, Nat.min_eq_left h2]
  | c :: l, s, h1, h2 => by
    rw [List.foldl_cons, fold_tot l _ (Nat.min_le_right _ _) (Nat.min_le_right _ _)]
    simp only [step, totE, totP, List.map_cons, List.sum_cons]
    congr 1 <;> omega

theorem sumE_tot (l : List (Nat × Nat)) : sumE l = (min (totE l) 1099511627776, min (totP l) 1099511627776) := by
  have := fold_tot l (0, 0) (by simp) (by simp)
  simpa [sumE] using this

theorem sumE_turn (l : List (Nat × Nat)) (k : Nat) : sumE (l.drop k ++ l.take k) = sumE l := by
  have h : l.take k ++ l.drop k = l := List.take_append_drop k l
  rw [sumE_tot, sumE_tot, totE_append, totP_append]
  have h1 : totE l = totE (l.take k) + totE (l.drop k) := by rw [← totE_append, h]
  have h2 : totP l = totP (l.take k) + totP (l.drop k) := by rw [← totP_append, h]
  rw [h1, h2, Nat.add_comm (totE (l.drop k)), Nat.add_comm (totP (l.drop k))]

theorem sumE_parts (l : List (Nat × Nat)) (k : Nat) :
    sumE [(F (sumE (l.take k)).1, F (sumE (l.take k)).2), (F (sumE (l.drop k)).1, F (sumE (l.drop k)).2)] = sumE l := by
  have h : l.take k ++ l.drop k = l := List.take_append_drop k l
  have b1 := sumE_le (l.take k)
  have b2 := sumE_le (l.drop k)
  have p1 := parts_F b1.1 b1.2
  have p2 := parts_F b2.1 b2.2
  rw [sumE_tot]
  simp only [totE, totP, List.map_cons, List.map_nil, List.sum_cons, List.sum_nil, p1.2.1, p1.2.2, p2.2.1, p2.2.2]
  rw [sumE_tot (l.take k), sumE_tot (l.drop k), sumE_tot l]
  have h1 : totE l = totE (l.take k) + totE (l.drop k) := by rw [← totE_append, h]
  have h2 : totP l = totP (l.take k) + totP (l.drop k) := by rw [← totP_append, h]
  rw [h1, h2]
  congr 1 <;> omega

end Go.Proofs.Ytdhhkhcgbgofoaa
