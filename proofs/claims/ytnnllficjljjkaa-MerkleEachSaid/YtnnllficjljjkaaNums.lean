/-
  Rows of registers as arguments, their fronts; the example of the register law.
-/
import Derived.Test.YtnnllficjljjkaaMac
import Derived.Test.YtnnllficjljjkaaPlan
import Derived.Test.YtnnllficjljjkaaMake
import Derived.Test.YtnnllficjljjkaaCut
namespace Go.Proofs.Ytnnllficjljjkaa
open Go.ChangeShapes Go.WideShapes Go.ChangeAt Go.RowKit Go.Deep
set_option linter.unusedVariables false
set_option linter.unusedSimpArgs false

section
variable {H : Type} {enc : TypeId × Value → H} {P : Program} {w : World} {base : Nat} {spare : Nat → Bool} {held : Bool} {r : Reach} {b0 : Nat}
theorem open_numsC {t s e : TypeId} {v : Value} {d : DataW H} {ps : List MemPlace} (ht : P.underlying t = some (.slice s)) (hcs : P.cellsOf s = 32) (hts : P.underlying s = some (.array 32 e)) (hc : P.cellsOf e = 1) (he : P.underlying e = some (.int .u8))
    (hval : Value.okWide P w r b0 t v) (hd : DataW.Trod enc P w base spare held t v d ps) : ∃ l, NRow w v l ∧ l.length ≤ maxLen ∧ CapOk v := by
  obtain ⟨l, h1, h2⟩ := open_nums ht hcs hts hc he hval hd
  refine ⟨l, h1, h2, ?_⟩
  clear h1 h2
  obtain ⟨a0, len0, cap0, rfl⟩ := okWide_slice ht hval
  obtain ⟨fuel, hf⟩ := hd
  rcases open_slice ht hf with ⟨hcs, _⟩ | ⟨a, len, cap, m, n, D, Pl, hcs', _, hl, hm, hmm, _, hcell⟩
  · simp [Value.cells] at hcs
    obtain ⟨rfl, rfl, rfl⟩ := hcs
    intro a n c e
    cases e
    exact ⟨Nat.le_refl _, by decide⟩
  · simp [Value.cells] at hcs'
    obtain ⟨rfl, rfl, rfl⟩ := hcs'
    intro a n c e
    cases e
    exact ⟨hl, hm⟩
end

theorem NRow.shape {w : World} {v : Value} {l : List (Nat → BitVec 8)} (h : NRow w v l) : ∃ a c, v = .slice a l.length c := by
  obtain ⟨a, c, e, _⟩ := h; exact ⟨a, c, e⟩
theorem NRow.front {w : World} {A : Option Addr} {n c : Nat} {l : List (Nat → BitVec 8)} (h : NRow w (.slice A n c) l) {k : Nat} (hk : k ≤ l.length) : NRow w (.slice A k c) (l.take k) := by
  obtain ⟨a, c', e, hn, hp⟩ := h
  cases e
  have hl : (l.take k).length = k := by rw [List.length_take]; omega
  refine ⟨A, c, by rw [hl], hn, fun h0 => ?_⟩
  rw [hl] at h0
  obtain ⟨b, off, rfl, hb, hcell⟩ := hp (by omega)
  refine ⟨b, off, rfl, hb, fun i hi j hj => ?_⟩
  rw [hl] at hi
  rw [hcell i (by omega) j hj, List.getElem_take]
theorem nrow_nil (w : World) : NRow w (.slice none 0 0) [] := ⟨none, 0, rfl, fun _ => rfl, fun h => absurd h (by simp)⟩
theorem nrow_one {w : World} {g c : Nat} {f : Nat → BitVec 8} {t : TypeId} {fr : Nat × Nat} (h : w.heap[g]? = some (.cells (rowB 32 f) t fr)) : NRow w (.slice (some ⟨g, 0, none⟩) 1 c) [f] :=
  ⟨_, c, rfl, (fun hc => by cases hc), fun _ => ⟨g, 0, rfl, (Array.getElem?_eq_some_iff.1 h).1, fun i hi j hj => by
    obtain rfl : i = 0 := by simpa using hi
    simp only [Nat.zero_mul, Nat.zero_add]
    exact cell_rowB h hj⟩⟩

theorem elem_N : Try.prog.underlying 33 = some (.slice (Try.prog.elem 33)) := by kernel_rfl
theorem size_N (w : World) : (sizeOf (Try.prog.elem 33)).run Try.prog w = .ok 32 w := by kernel_rfl
theorem slice_hiN {A : Option Addr} {n c k : Nat} (h2 : k ≤ c) (w : World) : (Instr.sliceAt 33 (.slice A n c) none (some (.int .i64 k)) none).run Try.prog w = .ok (.slice A k c) w := by
  rw [run_sliceAt_slice _ _ _ _ _ _ elem_N, run_slice_h _ _ _ _ _ elem_N _ _ (by omega) (by omega), size_N]
  have : (if c = 0 then A else A.map (·.add (0 * 32))) = A := by
    have := cutA_zero A c
    unfold cutA at this
    simpa using this
  show Result.ok (Value.slice (if c = 0 then A else A.map (·.add (0 * 32))) ((k : Int).toNat - 0) (c - 0)) w = _
  rw [this]
  rfl

/-- A number with one byte set. -/
def oneB (x : BitVec 8) : Nat → BitVec 8 := fun i => if i = 0 then x else 0
theorem built_one : Try.prog.built 25 [(0, Value.int .u8 1)] = some (rowB 32 (oneB 1)) := by kernel_rfl
theorem built_nine : Try.prog.built 25 [(0, Value.int .u8 9)] = some (rowB 32 (oneB 9)) := by kernel_rfl
theorem built_none : Try.prog.built 25 [] = some (rowB 32 fun _ => 0) := by kernel_rfl
theorem fill_num (f : Nat → BitVec 8) (z : Value) (hz : z = .agg (rowB 32 fun _ => 0)) : Instr.fill (fun i => some (i * 32, 32)) ((Array.range (1 * 32)).map (z.cells[· % z.cells.size]!)) [(0, Value.agg (rowB 32 f))] = some (rowB 32 f) := by
  subst hz
  kernel_rfl
end Go.Proofs.Ytnnllficjljjkaa
