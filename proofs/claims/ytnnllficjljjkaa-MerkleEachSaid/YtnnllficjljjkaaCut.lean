/-
  Parts of slices of bytes.
-/
import Derived.Test.YtnnllficjljjkaaArgs
namespace Go.Proofs.Ytnnllficjljjkaa
open Go.RowKit

def cutA (A : Option Addr) (c i : Nat) : Option Addr := if c = i then A else A.map (·.add (i * 1))
theorem cutA_zero (A : Option Addr) (c : Nat) : cutA A c 0 = A := by
  unfold cutA
  split
  · rfl
  · cases A with
    | none => rfl
    | some a => show some (a.add 0) = _; unfold Addr.add; simp

theorem elem_B : Try.prog.underlying 22 = some (.slice (Try.prog.elem 22)) := by kernel_rfl
theorem size_B (w : World) : (sizeOf (Try.prog.elem 22)).run Try.prog w = .ok 1 w := by kernel_rfl
theorem slice_B {A : Option Addr} {n c i k : Nat} (h1 : i ≤ k) (h2 : k ≤ c) (w : World) : (Instr.sliceAt 22 (.slice A n c) (some (.int .i64 i)) (some (.int .i64 k)) none).run Try.prog w = .ok (.slice (cutA A c i) (k - i) (c - i)) w := by
  rw [run_sliceAt_slice _ _ _ _ _ _ elem_B, run_slice_lh _ _ _ _ _ elem_B _ _ _ _ (by omega) (by omega) (by omega), size_B]
  rfl
theorem slice_lo {A : Option Addr} {n c i : Nat} (h1 : i ≤ n) (w : World) : (Instr.sliceAt 22 (.slice A n c) (some (.int .i64 i)) none none).run Try.prog w = .ok (.slice (cutA A c i) (n - i) (c - i)) w := by
  rw [run_sliceAt_slice _ _ _ _ _ _ elem_B, run_slice_l _ _ _ _ _ elem_B _ _ (by omega) (by omega), size_B]
  rfl
theorem slice_hi {A : Option Addr} {n c k : Nat} (h2 : k ≤ c) (w : World) : (Instr.sliceAt 22 (.slice A n c) none (some (.int .i64 k)) none).run Try.prog w = .ok (.slice A k c) w := by
  rw [run_sliceAt_slice _ _ _ _ _ _ elem_B, run_slice_h _ _ _ _ _ elem_B _ _ (by omega) (by omega), size_B]
  have := cutA_zero A c
  unfold cutA at this
  show Result.ok (Value.slice (if c = 0 then A else A.map (·.add (0 * 1))) ((k : Int).toNat - 0) (c - 0)) w = _
  rw [this]
  rfl

theorem BRow.cut {w : World} {A : Option Addr} {n c : Nat} {l : List (BitVec 8)} (h : BRow w (.slice A n c) l) {i k : Nat} (h1 : i ≤ k) (h2 : k ≤ l.length) (hc : l.length ≤ c) : BRow w (.slice (cutA A c i) (k - i) (c - i)) ((l.drop i).take (k - i)) := by
  obtain ⟨a, c', e, hn, hp⟩ := h
  cases e
  have hl : ((l.drop i).take (k - i)).length = k - i := by rw [List.length_take, List.length_drop]; omega
  refine ⟨cutA A c i, c - i, by rw [hl], fun hz => ?_, fun h0 => ?_⟩
  · cases A with
    | none => rw [hn rfl]; omega
    | some a => unfold cutA at hz; split at hz <;> cases hz
  · rw [hl] at h0
    obtain ⟨b, off, rfl, hb, hcell⟩ := hp (by omega)
    refine ⟨b, off + i, ?_, hb, fun j hj => ?_⟩
    · unfold cutA
      rw [if_neg (by omega), Nat.mul_one]
      show some ((⟨b, off, none⟩ : Addr).add i) = _
      rw [add_spot rfl]
    · rw [hl] at hj
      rw [Nat.add_assoc, hcell (i + j) (by omega)]
      simp
theorem BRow.cutHi {w : World} {A : Option Addr} {n c : Nat} {l : List (BitVec 8)} (h : BRow w (.slice A n c) l) {k : Nat} (h2 : k ≤ l.length) (hc : l.length ≤ c) : BRow w (.slice A k c) (l.take k) := by
  have := h.cut (Nat.zero_le k) h2 hc
  simpa [cutA_zero] using this
theorem BRow.cutLo {w : World} {A : Option Addr} {n c : Nat} {l : List (BitVec 8)} (h : BRow w (.slice A n c) l) {i : Nat} (h1 : i ≤ l.length) (hc : l.length ≤ c) : BRow w (.slice (cutA A c i) (n - i) (c - i)) (l.drop i) := by
  have hn : n = l.length := by obtain ⟨a, c', e, _⟩ := h; cases e; rfl
  have := h.cut h1 (Nat.le_refl _) hc
  rw [hn]
  rwa [List.take_of_length_le (by simp)] at this

end Go.Proofs.Ytnnllficjljjkaa
