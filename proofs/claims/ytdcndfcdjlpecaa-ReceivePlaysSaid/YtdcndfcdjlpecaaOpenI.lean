/-
  How a slice of ints, or of bools, that is given as data is opened.
-/
import Derived.Test.YtdcndfcdjlpecaaOpenC
import Derived.Test.YtdcndfcdjlpecaaInts
namespace Go.Proofs.Ytdcndfcdjlpecaa
open Go.ChangeShapes Go.WideShapes Go.ChangeAt Go.RowKit Go.Deep

section
variable {H : Type} {enc : TypeId × Value → H} {P : Program} {w : World} {base : Nat} {spare : Nat → Bool} {held : Bool} {r : Reach} {b0 : Nat}
theorem open_ints {t e : TypeId} {v : Value} {d : DataW H} {ps : List MemPlace} (ht : P.underlying t = some (.slice e)) (hc : P.cellsOf e = 1) (he : P.underlying e = some (.int .i64))
    (hval : Value.okWide P w r b0 t v) (hd : DataW.Trod enc P w base spare held t v d ps) : ∃ l, IRow w v l ∧ ∀ x ∈ l, -9223372036854775808 ≤ x ∧ x ≤ 9223372036854775807 := by
  obtain ⟨a0, len0, cap0, rfl⟩ := okWide_slice ht hval
  obtain ⟨fuel, hf⟩ := hd
  obtain ⟨v, hv, l, a, c, rfl, hm, hl, hn, hp⟩ := cells_of_trod (p := fun v (y : Int) => v = .int .i64 y ∧ -9223372036854775808 ≤ y ∧ y ≤ 9223372036854775807) ht hc (fun n cs x h => by
    obtain ⟨y, hy, _, hq⟩ := DataW.trod_int he h
    exact ⟨_, y, hy, rfl, i64_of_wf hq⟩) hf
  have : Value.slice a0 len0 cap0 = .slice a l.length c := by simpa [Value.cells] using hv
  rw [this]
  refine ⟨l, ⟨a, c, rfl, hn, fun h0 => ?_⟩, fun x hx => ?_⟩
  · obtain ⟨b, off, rfl, hb, hcell⟩ := hp h0
    exact ⟨b, off, rfl, hb, fun i hi => by obtain ⟨v, h1, rfl, _⟩ := hcell i hi; exact h1⟩
  · obtain ⟨i, hi, rfl⟩ := List.getElem_of_mem hx
    obtain ⟨b, off, rfl, hb, hcell⟩ := hp (by omega)
    obtain ⟨v, h1, _, h2⟩ := hcell i hi
    exact h2
theorem trod_bool {t : TypeId} {fuel : Nat} {cs : List Value} {x : DataW H × List MemPlace} (ht : P.underlying t = some .bool) (h : DataW.trod enc P w base spare held fuel t cs = some x) :
    ∃ b, cs = [.bool b] := by
  cases fuel with
  | zero => simp [DataW.trod] at h
  | succ n =>
    unfold DataW.trod at h
    rw [ht] at h
    split at h <;> simp_all
theorem open_bools {t e : TypeId} {v : Value} {d : DataW H} {ps : List MemPlace} (ht : P.underlying t = some (.slice e)) (hc : P.cellsOf e = 1) (he : P.underlying e = some .bool)
    (hval : Value.okWide P w r b0 t v) (hd : DataW.Trod enc P w base spare held t v d ps) : ∃ l, LRow w v l ∧ True := by
  obtain ⟨a0, len0, cap0, rfl⟩ := okWide_slice ht hval
  obtain ⟨fuel, hf⟩ := hd
  obtain ⟨v, hv, l, a, c, rfl, hm, hl, hn, hp⟩ := cells_of_trod (p := fun v (y : Bool) => v = .bool y) ht hc (fun n cs x h => by
    obtain ⟨y, hy⟩ := trod_bool he h
    exact ⟨_, y, hy, rfl⟩) hf
  have : Value.slice a0 len0 cap0 = .slice a l.length c := by simpa [Value.cells] using hv
  rw [this]
  refine ⟨l, ⟨a, c, rfl, hn, fun h0 => ?_⟩, trivial⟩
  obtain ⟨b, off, rfl, hb, hcell⟩ := hp h0
  exact ⟨b, off, rfl, hb, fun i hi => by obtain ⟨v, h1, rfl⟩ := hcell i hi; exact h1⟩
end

end Go.Proofs.Ytdcndfcdjlpecaa
