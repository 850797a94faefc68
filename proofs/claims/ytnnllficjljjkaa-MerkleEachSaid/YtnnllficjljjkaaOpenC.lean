/-
  How the arguments of a call, which are given as data, are opened: integers, arrays of bytes.
-/
import Derived.Test.YtnnllficjljjkaaArgs
namespace Go.Proofs.Ytnnllficjljjkaa
open Go.ChangeShapes Go.WideShapes Go.ChangeAt Go.RowKit Go.Deep

section
variable {H : Type} {enc : TypeId × Value → H} {P : Program} {w : World} {base : Nat} {spare : Nat → Bool} {held : Bool} {r : Reach} {b0 : Nat}
theorem open_i64 {k : IntKind} {t : TypeId} {v : Value} {d : DataW H} {ps : List MemPlace} (ht : P.underlying t = some (.int k)) (hval : Value.okWide P w r b0 t v) (hd : DataW.Trod enc P w base spare held t v d ps) :
    ∃ x, v = .int k x ∧ (Lit.int k x).wf = true := by
  obtain ⟨x, h1, _, _, h2⟩ := open_int ht hval hd
  exact ⟨x, h1, h2⟩

theorem open_arrB {t e : TypeId} {n : Nat} {v : Value} {d : DataW H} {ps : List MemPlace} (ht : P.underlying t = some (.array n e)) (hc : P.cellsOf e = 1) (hn : P.cellsOf t = n) (he : P.underlying e = some (.int .u8))
    (hval : Value.okWide P w r b0 t v) (hd : DataW.Trod enc P w base spare held t v d ps) : ∃ f, v = .agg (rowB n f) := by
  obtain ⟨cs, rfl, hsz⟩ := okWide_array ht hval
  obtain ⟨fuel, hf⟩ := hd
  obtain ⟨xs, m, _, _, hl, hxl, hx⟩ := DataW.trod_array ht hf
  simp only [Value.cells] at hl hx
  rw [hc] at hx
  rw [hn] at hl hsz
  obtain ⟨Y, hY⟩ := choose_lt (α := BitVec 8) (n := n) (p := fun i y => cs[i]? = some (.int .u8 (B8 y))) (fun i hi => by
    have h1 := hx i hi
    rw [List.getElem?_eq_getElem (by omega)] at h1
    obtain ⟨v, y, hy, rfl⟩ := byte_of_trod he _ _ _ h1
    refine ⟨y, ?_⟩
    rw [Nat.mul_one] at hy
    have h2 : (cs.toList.drop i)[0]? = some (.int .u8 (B8 y)) := by
      rw [← List.getElem?_take_of_lt (show 0 < 1 by omega), hy]; rfl
    rw [List.getElem?_drop, Nat.add_zero] at h2
    simpa using h2)
  refine ⟨Y, ?_⟩
  congr 1
  apply Array.ext'
  apply List.ext_getElem?
  intro i
  by_cases hi : i < n
  · have := hY i hi
    simp [rowB, row, hi, ← this]
  · rw [List.getElem?_eq_none (by simp; omega), List.getElem?_eq_none (by simp [rowB, row]; omega)]
end

end Go.Proofs.Ytnnllficjljjkaa
