/-
  A slice of lists of bytes that is given as data is opened, its room told too.
-/
import Derived.Test.YtnnllficjljjkaaArgs
namespace Go.Proofs.Ytnnllficjljjkaa
open Go.ChangeShapes Go.WideShapes Go.ChangeAt Go.RowKit Go.Deep

section
variable {H : Type} {enc : TypeId × Value → H} {P : Program} {w : World} {base : Nat} {spare : Nat → Bool} {held : Bool} {r : Reach} {b0 : Nat}
theorem open_listsC {t s e : TypeId} {v : Value} {d : DataW H} {ps : List MemPlace} (ht : P.underlying t = some (.slice s)) (hcs : P.cellsOf s = 1) (hts : P.underlying s = some (.slice e)) (hc : P.cellsOf e = 1) (he : P.underlying e = some (.int .u8))
    (hval : Value.okWide P w r b0 t v) (hd : DataW.Trod enc P w base spare held t v d ps) : ∃ l, BRows w v l ∧ CapOk v := by
  obtain ⟨a0, len0, cap0, rfl⟩ := okWide_slice ht hval
  obtain ⟨fuel, hf⟩ := hd
  obtain ⟨v, hv, l, a, c, rfl, hm, hl, hn, hp⟩ := cells_of_trod (p := fun v (m : List (BitVec 8)) => BRow w v m ∧ m.length ≤ maxLen) ht hcs (fun n cs x h => by
    obtain ⟨v, l, h1, h2, h3, _⟩ := brow_of_trod hts hc he n cs x h
    exact ⟨v, l, h1, h2, h3⟩) hf
  have : Value.slice a0 len0 cap0 = .slice a l.length c := by simpa [Value.cells] using hv
  rw [this]
  refine ⟨l, ⟨a, c, rfl, hn, fun h0 => ?_⟩, fun a' n' c' e => by cases e; exact ⟨hl, hm⟩⟩
  obtain ⟨b, off, rfl, hb, hcell⟩ := hp h0
  refine ⟨b, off, rfl, hb, fun i hi => ?_⟩
  obtain ⟨v, h1, h2, _⟩ := hcell i hi
  exact ⟨v, h1, h2⟩
end

end Go.Proofs.Ytnnllficjljjkaa
