/-
  How the arguments of a call, which are given as data, are opened: what value each is, and which bytes it leads to.
-/
import Derived.Test.YtnnllficjljjkaaBytes
import Derived.ProofKit
import Derived.OpenShut
import Derived.Deep.Slices
import Derived.WalkLawsBesides
namespace Go.Proofs.Ytnnllficjljjkaa
open Go.ChangeShapes Go.WideShapes Go.ChangeAt Go.RowKit Go.Deep

/-- A slice value that reads as a list of hashes. -/
def NRow (w : World) (v : Value) (l : List (Nat → BitVec 8)) : Prop :=
  ∃ a c, v = .slice a l.length c ∧ (a = none → c = 0) ∧ (0 < l.length → ∃ b off, a = some ⟨b, off, none⟩ ∧ b < w.heap.size ∧ ∀ (i : Nat) (h : i < l.length) (j : Nat), j < 32 → w.cell? ⟨b, off + i * 32 + j, none⟩ = some (.int .u8 (B8 (l[i] j))))
theorem NRow.below {w w' : World} {v : Value} {l : List (Nat → BitVec 8)} (h : NRow w v l) (hb : Below w.heap.size w w') : NRow w' v l := by
  obtain ⟨a, c, rfl, hn, h⟩ := h
  refine ⟨a, c, rfl, hn, fun h0 => ?_⟩
  obtain ⟨b, off, rfl, h1, h2⟩ := h h0
  exact ⟨b, off, rfl, Nat.lt_of_lt_of_le h1 hb.size, fun i hi j hj => (hb.cell (p := ⟨b, off + i * 32 + j, none⟩) h1).trans (h2 i hi j hj)⟩

theorem u8_of_wf {y : Int} (h : (Lit.int .u8 y).wf = true) : ∃ x : BitVec 8, y = B8 x := by
  unfold Lit.wf at h
  rw [Bool.and_eq_true, decide_eq_true_eq, decide_eq_true_eq, show IntKind.u8.min = 0 by decide, show IntKind.u8.max = 255 by decide] at h
  refine ⟨BitVec.ofNat 8 y.toNat, ?_⟩
  unfold B8
  rw [BitVec.toNat_ofNat]
  omega
theorem i64_of_wf {y : Int} (h : (Lit.int .i64 y).wf = true) : -9223372036854775808 ≤ y ∧ y ≤ 9223372036854775807 := by
  unfold Lit.wf at h
  rw [Bool.and_eq_true, decide_eq_true_eq, decide_eq_true_eq, show IntKind.i64.min = -9223372036854775808 by decide, show IntKind.i64.max = 9223372036854775807 by decide] at h
  exact h

/-- What is known of a slice's room. -/
def CapOk (v : Value) : Prop := ∀ a n c, v = .slice a n c → n ≤ c ∧ c ≤ maxLen
theorem cell_lt {w : World} {a : Addr} {v : Value} (h : w.cell? a = some v) : a.block < w.heap.size := by
  unfold World.cell? at h
  split at h
  · rename_i hb
    exact (Array.getElem?_eq_some_iff.1 hb).1
  · cases h
theorem add_spot {a : Addr} {i : Nat} (h : a.spot = none) : a.add i = ⟨a.block, a.off + i, none⟩ := by
  obtain ⟨b, off, spot⟩ := a
  simp only at h
  subst h
  unfold Addr.add; split
  · rename_i hz; subst hz; rfl
  · rfl

section
variable {H : Type} {enc : TypeId × Value → H} {P : Program} {w : World} {base : Nat} {spare : Nat → Bool} {held : Bool} {r : Reach} {b0 : Nat}

/-- A slice of one-cell elements. -/
theorem cells_of_trod {α : Type} [Inhabited α] {p : Value → α → Prop} {t e : TypeId} {fuel : Nat} {cs : List Value} {x : DataW H × List MemPlace} (ht : P.underlying t = some (.slice e)) (hc : P.cellsOf e = 1)
    (hel : ∀ n cs x, DataW.trod enc P w base spare held n e cs = some x → ∃ v y, cs = [v] ∧ p v y)
    (h : DataW.trod enc P w base spare held fuel t cs = some x) :
    ∃ v, cs = [v] ∧ ∃ (l : List α) (a : Option Addr) (c : Nat), v = .slice a l.length c ∧ c ≤ maxLen ∧ l.length ≤ c ∧ (a = none → c = 0) ∧
      (0 < l.length → ∃ b off, a = some ⟨b, off, none⟩ ∧ b < w.heap.size ∧ ∀ (i : Nat) (h : i < l.length), ∃ v, w.cell? ⟨b, off + i, none⟩ = some v ∧ p v l[i]) := by
  rcases open_slice1 ht hc h with ⟨rfl, _⟩ | ⟨a, len, cap, m, n, V, D, Pl, rfl, _, hl, hm, hmm, _, hcell⟩
  · exact ⟨_, rfl, [], none, 0, rfl, by decide, by simp, fun _ => rfl, fun h => absurd h (by simp)⟩
  · have hle : len ≤ m := by rw [hmm]; split <;> omega
    obtain ⟨Y, hY⟩ := choose_lt (α := α) (n := len) (p := fun i y => p (V i) y) (fun i hi => by
      obtain ⟨_, h2⟩ := hcell i (by omega)
      obtain ⟨v, y, hy, hp⟩ := hel _ _ _ h2
      have : V i = v := by simpa using hy
      exact ⟨y, by rw [this]; exact hp⟩)
    refine ⟨_, rfl, (List.range len).map Y, some a, cap, by simp, hm, by simp; omega, (fun c => by cases c), fun h0 => ?_⟩
    have h0 : 0 < len := by simpa using h0
    have hc0 := (hcell 0 (by omega)).1
    have hspot : a.spot = none := by
      have := World.cell?_spot hc0
      simpa [Addr.add] using this
    refine ⟨a.block, a.off, ?_, ?_, fun i h => ?_⟩
    · obtain ⟨b, off, spot⟩ := a
      simp only at hspot
      subst hspot; rfl
    · have := cell_lt hc0
      rw [add_spot hspot] at this
      exact this
    · have hi : i < len := by simpa using h
      have h1 := (hcell i (by omega)).1
      rw [add_spot hspot] at h1
      exact ⟨_, h1, by simpa using hY i hi⟩

theorem byte_of_trod {e : TypeId} (he : P.underlying e = some (.int .u8)) (n : Nat) (cs : List Value) (x : DataW H × List MemPlace) (h : DataW.trod enc P w base spare held n e cs = some x) :
    ∃ (v : Value) (y : BitVec 8), cs = [v] ∧ v = .int .u8 (B8 y) := by
  obtain ⟨y, hy, _, hq⟩ := DataW.trod_int he h
  obtain ⟨z, rfl⟩ := u8_of_wf hq
  exact ⟨_, z, hy, rfl⟩

theorem brow_of_trod {t e : TypeId} (ht : P.underlying t = some (.slice e)) (hc : P.cellsOf e = 1) (he : P.underlying e = some (.int .u8)) (n : Nat) (cs : List Value) (x : DataW H × List MemPlace)
    (h : DataW.trod enc P w base spare held n t cs = some x) : ∃ (v : Value) (l : List (BitVec 8)), cs = [v] ∧ BRow w v l ∧ l.length ≤ maxLen ∧ CapOk v := by
  obtain ⟨v, hv, l, a, c, rfl, hm, hl, hn, hp⟩ := cells_of_trod (p := fun v (y : BitVec 8) => v = .int .u8 (B8 y)) ht hc (byte_of_trod he) h
  refine ⟨_, l, hv, ⟨a, c, rfl, hn, fun h0 => ?_⟩, by omega, fun a' n' c' e => by cases e; exact ⟨hl, hm⟩⟩
  obtain ⟨b, off, rfl, hb, hcell⟩ := hp h0
  exact ⟨b, off, rfl, hb, fun i hi => by obtain ⟨v, h1, rfl⟩ := hcell i hi; exact h1⟩

theorem open_bytes {t e : TypeId} {v : Value} {d : DataW H} {ps : List MemPlace} (ht : P.underlying t = some (.slice e)) (hc : P.cellsOf e = 1) (he : P.underlying e = some (.int .u8))
    (hval : Value.okWide P w r b0 t v) (hd : DataW.Trod enc P w base spare held t v d ps) : ∃ l, BRow w v l ∧ l.length ≤ maxLen ∧ CapOk v := by
  obtain ⟨a0, len0, cap0, rfl⟩ := okWide_slice ht hval
  obtain ⟨fuel, hf⟩ := hd
  obtain ⟨v, l, hv, h1, h2, h3⟩ := brow_of_trod ht hc he _ _ _ hf
  have : Value.slice a0 len0 cap0 = v := by simpa [Value.cells] using hv
  rw [this]
  exact ⟨l, h1, h2, h3⟩

theorem open_lists {t s e : TypeId} {v : Value} {d : DataW H} {ps : List MemPlace} (ht : P.underlying t = some (.slice s)) (hcs : P.cellsOf s = 1) (hts : P.underlying s = some (.slice e)) (hc : P.cellsOf e = 1) (he : P.underlying e = some (.int .u8))
    (hval : Value.okWide P w r b0 t v) (hd : DataW.Trod enc P w base spare held t v d ps) : ∃ l, BRows w v l ∧ l.length ≤ maxLen ∧ ∀ m ∈ l, m.length ≤ maxLen := by
  obtain ⟨a0, len0, cap0, rfl⟩ := okWide_slice ht hval
  obtain ⟨fuel, hf⟩ := hd
  obtain ⟨v, hv, l, a, c, rfl, hm, hl, hn, hp⟩ := cells_of_trod (p := fun v (m : List (BitVec 8)) => BRow w v m ∧ m.length ≤ maxLen) ht hcs (fun n cs x h => by
    obtain ⟨v, l, h1, h2, h3, _⟩ := brow_of_trod hts hc he n cs x h
    exact ⟨v, l, h1, h2, h3⟩) hf
  have : Value.slice a0 len0 cap0 = .slice a l.length c := by simpa [Value.cells] using hv
  rw [this]
  have hall : 0 < l.length → ∀ m ∈ l, m.length ≤ maxLen := fun h0 m hm => by
    obtain ⟨b, off, rfl, hb, hcell⟩ := hp h0
    obtain ⟨i, hi, rfl⟩ := List.getElem_of_mem hm
    obtain ⟨_, _, _, h3⟩ := hcell i hi
    exact h3
  refine ⟨l, ⟨a, c, rfl, hn, fun h0 => ?_⟩, by omega, fun m hm => hall (List.length_pos_of_mem hm) m hm⟩
  obtain ⟨b, off, rfl, hb, hcell⟩ := hp h0
  refine ⟨b, off, rfl, hb, fun i hi => ?_⟩
  obtain ⟨v, h1, h2, _⟩ := hcell i hi
  exact ⟨v, h1, h2⟩

theorem okWide_array {t e : TypeId} {n : Nat} {v : Value} (ht : P.underlying t = some (.array n e)) (h : Value.okWide P w r b0 t v) : ∃ cs, v = .agg cs ∧ cs.size = P.cellsOf t := by
  simp only [Value.okWide, ht] at h
  obtain ⟨cs, h1, h2, _⟩ := h
  exact ⟨cs, h1, h2⟩

theorem num_of_trod {t e : TypeId} {fuel : Nat} {cs : List Value} {x : DataW H × List MemPlace} (ht : P.underlying t = some (.array 32 e)) (hc : P.cellsOf e = 1) (he : P.underlying e = some (.int .u8))
    (h : DataW.trod enc P w base spare held fuel t cs = some x) : ∃ f : Nat → BitVec 8, ∀ i, i < 32 → cs[i]? = some (.int .u8 (B8 (f i))) := by
  obtain ⟨xs, m, _, _, hl, hxl, hx⟩ := DataW.trod_array ht h
  rw [hc] at hx
  obtain ⟨Y, hY⟩ := choose_lt (α := BitVec 8) (n := 32) (p := fun i y => cs[i]? = some (.int .u8 (B8 y))) (fun i hi => by
    have h1 := hx i hi
    rw [List.getElem?_eq_getElem (by omega)] at h1
    obtain ⟨v, y, hy, rfl⟩ := byte_of_trod he _ _ _ h1
    refine ⟨y, ?_⟩
    rw [Nat.mul_one] at hy
    have h2 : (cs.drop i)[0]? = some (.int .u8 (B8 y)) := by
      rw [← List.getElem?_take_of_lt (show 0 < 1 by omega), hy]; rfl
    rw [List.getElem?_drop, Nat.add_zero] at h2
    exact h2)
  exact ⟨Y, hY⟩

theorem open_num {t e : TypeId} {v : Value} {d : DataW H} {ps : List MemPlace} (ht : P.underlying t = some (.array 32 e)) (hc : P.cellsOf e = 1) (hn : P.cellsOf t = 32) (he : P.underlying e = some (.int .u8))
    (hval : Value.okWide P w r b0 t v) (hd : DataW.Trod enc P w base spare held t v d ps) : ∃ f, v = .agg (rowB 32 f) := by
  obtain ⟨cs, rfl, hsz⟩ := okWide_array ht hval
  obtain ⟨fuel, hf⟩ := hd
  obtain ⟨f, hfi⟩ := num_of_trod ht hc he hf
  refine ⟨f, ?_⟩
  congr 1
  apply Array.ext'
  apply List.ext_getElem?
  intro i
  by_cases hi : i < 32
  · have := hfi i hi
    simp only [Value.cells] at this
    rw [this]
    simp [rowB, row, hi]
  · rw [List.getElem?_eq_none (by simp; omega), List.getElem?_eq_none (by simp [rowB, row]; omega)]

theorem open_nums {t s e : TypeId} {v : Value} {d : DataW H} {ps : List MemPlace} (ht : P.underlying t = some (.slice s)) (hcs : P.cellsOf s = 32) (hts : P.underlying s = some (.array 32 e)) (hc : P.cellsOf e = 1) (he : P.underlying e = some (.int .u8))
    (hval : Value.okWide P w r b0 t v) (hd : DataW.Trod enc P w base spare held t v d ps) : ∃ l, NRow w v l ∧ l.length ≤ maxLen := by
  obtain ⟨a0, len0, cap0, rfl⟩ := okWide_slice ht hval
  obtain ⟨fuel, hf⟩ := hd
  rcases open_slice ht hf with ⟨hcs, _⟩ | ⟨a, len, cap, m, n, D, Pl, hcs', _, hl, hm, hmm, _, hcell⟩
  · simp [Value.cells] at hcs
    obtain ⟨rfl, rfl, rfl⟩ := hcs
    exact ⟨[], ⟨none, 0, rfl, fun _ => rfl, fun h => absurd h (by simp)⟩, by simp⟩
  · simp [Value.cells] at hcs'
    obtain ⟨rfl, rfl, rfl⟩ := hcs'
    have hle : len0 ≤ m := by rw [hmm]; split <;> omega
    rw [hcs] at hcell
    obtain ⟨Y, hY⟩ := choose_lt (α := Nat → BitVec 8) (n := len0) (p := fun i f => ∀ j, j < 32 → w.cell? (a.add (i * 32 + j)) = some (.int .u8 (B8 (f j)))) (fun i hi => by
      obtain ⟨cs', h1, h2⟩ := hcell i (by omega)
      obtain ⟨f, hfi⟩ := num_of_trod hts hc he h2
      obtain ⟨_, hcl, hat⟩ := World.cells?_some h1
      exact ⟨f, fun j hj => by rw [← Go.Deep.add_add, hat j hj]; exact hfi j hj⟩)
    refine ⟨(List.range len0).map Y, ⟨some a, cap0, by simp, (fun c => by cases c), fun h0 => ?_⟩, by simp; omega⟩
    have h0 : 0 < len0 := by simpa using h0
    have hc0 := hY 0 h0 0 (by omega)
    have hspot : a.spot = none := by
      have := World.cell?_spot hc0
      simpa [Addr.add] using this
    refine ⟨a.block, a.off, ?_, ?_, fun i h j hj => ?_⟩
    · obtain ⟨b, off, spot⟩ := a
      simp only at hspot
      subst hspot; rfl
    · have := cell_lt hc0
      rw [add_spot hspot] at this
      exact this
    · have hi : i < len0 := by simpa using h
      have h1 := hY i hi j hj
      rw [add_spot hspot, ← Nat.add_assoc] at h1
      simpa using h1
end

end Go.Proofs.Ytnnllficjljjkaa
