/-
  For the law MerkleEach: the row of lists that the law builds.
-/
import Derived.Test.YtnnllficjljjkaaMerkA
import Derived.Test.YtnnllficjljjkaaLawMacP
namespace Go.Proofs.Ytnnllficjljjkaa
open Go.RowKit
set_option linter.unusedVariables false
set_option linter.unusedSimpArgs false

/-- The lists that the law makes. -/
def listsE (y : BitVec 8) (n : Nat) : List (List (BitVec 8)) := (List.range n).map fun i => [y, BitVec.ofNat 8 i]
theorem listsE_length (y : BitVec 8) (n : Nat) : (listsE y n).length = n := by simp [listsE]
theorem listsE_get (y : BitVec 8) (n : Nat) {i : Nat} (h : i < (listsE y n).length) : (listsE y n)[i] = [y, BitVec.ofNat 8 i] := by simp [listsE]
theorem listsE_flat (y : BitVec 8) (n : Nat) : (listsE y n).flatten.length = 2 * n := by
  induction n with
  | zero => rfl
  | succ n ih =>
    have e : listsE y (n + 1) = listsE y n ++ [[y, BitVec.ofNat 8 n]] := by simp [listsE, List.range_succ]
    rw [e, List.flatten_append, List.length_append, ih]
    simp
    omega
theorem B8_nat {i : Nat} (h : i < 256) : B8 (BitVec.ofNat 8 i) = (i : Int) := by
  unfold B8
  rw [BitVec.toNat_ofNat]
  omega

/-- One slice is appended to a row of slices of the call's own. -/
theorem wpList_append_S1 {ops : Array Oper} {rest : List Oper} {o : Oper} {a : Act} {w : World} {Q : Exit → Act → World → Prop} (hgd : o.guard = none) (s x : Operand)
    (ho : o.op = .call { callee := .builtin .append, args := #[s, x], argTypes := #[30, 30] })
    (base : Nat) (v : Value) (xs : List Value) (u : Value) (hu : u.oneCell' = true) (hs : a.eval s = v) (hown : OwnS w base v xs) (g c : Nat) (hx : a.eval x = .slice (some ⟨g, 0, none⟩) 1 c)
    (hcell : w.cell? ⟨g, 0, none⟩ = some u) (hsz : xs.length ≤ 1000000) (hbase : base ≤ w.heap.size)
    (h : ∀ v' w', OwnS w' base v' (xs ++ [u]) → w.grownBy w' v.ownBlock → wpList Try.prog ops Q rest (a.put o.dst v') w') : wpList Try.prog ops Q (o :: rest) a w := by
  obtain ⟨i0, hi0, hz0, hz1, hz2⟩ := info_parts info_sl
  refine wpList_append_own w hgd s x 30 ho base 22 i0 _ 1 24 Try.underlying30 hi0 hz0 hz1 hz2 rfl (by decide) v xs.length xs hs hown ⟨g, 0, none⟩ 1 c [u] hx (by simp) ?_ ?_ (by unfold maxLen; omega) (by omega) hbase ?_
  · intro j z hj
    have hjl : j = 0 := by
      rcases Nat.lt_or_ge j 1 with h | h
      · omega
      · rw [List.getElem?_eq_none (by simpa using h)] at hj; cases hj
    subst hjl
    rw [Addr.add_mid]
    simp only [Nat.add_zero, hcell]
    simpa using hj
  · intro z hz
    obtain rfl : z = u := by simpa using hz
    exact hu
  · intro v' w' h1 h2 _
    have h1' : OwnS w' base v' (xs ++ [u]) := by unfold OwnS; rw [List.length_append]; exact h1
    exact h v' w' h1' h2

/-- The row after k rounds. -/
def EachAt (w : World) (base : Nat) (v : Value) (y : BitVec 8) (k : Nat) : Prop :=
  ∃ us : List Value, us.length = k ∧ OwnS w base v us ∧ ∀ (i : Nat) (h : i < us.length), ∃ gi, us[i] = .slice (some ⟨gi, 0, none⟩) 2 2 ∧ w.heap[gi]? = some (.cells #[.int .u8 (B8 y), .int .u8 (i : Int)] 5 (0, 0))
theorem eachAt_zero (w : World) (base : Nat) (y : BitVec 8) : EachAt w base (.slice none 0 0) y 0 := ⟨[], rfl, World.ownsRow_nil _ _ _ _, fun i h => absurd h (by simp)⟩
theorem EachAt.brows {w : World} {base : Nat} {v : Value} {y : BitVec 8} {k : Nat} (h : EachAt w base v y k) (hk : k ≤ 256) : BRows w v (listsE y k) := by
  obtain ⟨us, rfl, hown, hel⟩ := h
  refine hown.brows (by rw [listsE_length]) fun i h1 h2 => ?_
  obtain ⟨gi, e, hg⟩ := hel i h1
  rw [e, listsE_get]
  refine brow_mk (c := 2) [y, BitVec.ofNat 8 i] (t := 5) (fr := (0, 0)) ?_
  rw [hg]
  simp [B8_nat (show i < 256 by omega)]
theorem EachAt.cap {w : World} {base : Nat} {v : Value} {y : BitVec 8} {k : Nat} (h : EachAt w base v y k) : ∃ a c, v = .slice a k c ∧ k ≤ c := by
  obtain ⟨us, rfl, hown, _⟩ := h
  rcases hown.2 with ⟨rfl, h0⟩ | ⟨g, cap, cur, rfl, _, _, hn, _, _, _⟩
  · exact ⟨none, 0, by rw [h0], by omega⟩
  · exact ⟨_, cap, rfl, hn⟩
theorem EachAt.step {w w' : World} {base : Nat} {v v' : Value} {y : BitVec 8} {k : Nat} {us : List Value} (hl : us.length = k) (hown0 : OwnS w base v us)
    (hel : ∀ (i : Nat) (h : i < us.length), ∃ gi, us[i] = .slice (some ⟨gi, 0, none⟩) 2 2 ∧ w.heap[gi]? = some (.cells #[.int .u8 (B8 y), .int .u8 (i : Int)] 5 (0, 0)))
    (hown : OwnS w' base v' (us ++ [.slice (some ⟨w.heap.size, 0, none⟩) 2 2]))
    (hg : ((w.alloc (.cells #[.int .u8 (B8 y), .int .u8 (k : Int)] 5)).alloc (.cells #[.slice (some ⟨w.heap.size, 0, none⟩) 2 2] 22)).grownBy w' v.ownBlock) :
    EachAt w' base v' y (k + 1) := by
  have hs1 : (w.alloc (.cells #[.int .u8 (B8 y), .int .u8 (k : Int)] 5)).heap.size = w.heap.size + 1 := by simp
  have hs2 : ((w.alloc (.cells #[.int .u8 (B8 y), .int .u8 (k : Int)] 5)).alloc (.cells #[.slice (some ⟨w.heap.size, 0, none⟩) 2 2] 22)).heap.size = w.heap.size + 2 := by simp
  refine ⟨us ++ [.slice (some ⟨w.heap.size, 0, none⟩) 2 2], by simp [hl], hown, fun i h => ?_⟩
  by_cases hi : i < us.length
  · obtain ⟨gi, e, hgi⟩ := hel i hi
    have hlt := (Array.getElem?_eq_some_iff.1 hgi).1
    refine ⟨gi, by rw [List.getElem_append_left hi]; exact e, ?_⟩
    rw [hg.block gi (by rw [hs2]; omega) ?_, heap_alloc_old _ _ (by rw [hs1]; omega), heap_alloc_old _ _ hlt]
    · exact hgi
    · intro hc
      rcases hown0.2 with ⟨rfl, _⟩ | ⟨g, cap, cur, rfl, _, hgc, _⟩
      · cases hc
      · have hc' : some gi = some g := hc
        injection hc' with hc'
        subst hc'
        rw [hgi] at hgc
        injection hgc with hgc
        injection hgc with _ ht _
        exact absurd ht (by decide)
  · obtain rfl : i = us.length := by simp at h; omega
    refine ⟨w.heap.size, by simp, ?_⟩
    rw [hg.block w.heap.size (by rw [hs2]; omega) ?_, heap_alloc_old _ _ (by rw [hs1]; omega), heap_alloc_new, hl]
    intro hc
    have := (World.ownsRow.lt hown0 w.heap.size hc.symm).2
    omega

/-- A number is a power of two where it and the one below have no bit in common. -/
theorem pow_of_land (n : Nat) (h1 : n ≤ 40) (h2 : 1 ≤ n) (h3 : bits BinOp.and IntKind.i64 (n : Int) (IntKind.i64.wrap ((n : Int) - 1)) = 0) : ∃ j, j ≤ 6 ∧ n = 2 ^ j := by
  have key : ∀ n : Fin 41, 1 ≤ n.val → bits BinOp.and IntKind.i64 (n.val : Int) (IntKind.i64.wrap ((n.val : Int) - 1)) = 0 → ∃ j : Fin 7, n.val = 2 ^ j.val := by decide
  obtain ⟨j, hj⟩ := key ⟨n, by omega⟩ h2 h3
  exact ⟨j.val, by omega, hj⟩

end Go.Proofs.Ytnnllficjljjkaa
