/-
  How the arguments of a call, which are given as data, are opened: what value each is, and which cells it leads to. No program in sight.
-/
import Derived.ProofKit
import Derived.OpenShut
import Derived.Deep.Slices
import Derived.WalkLawsBesides
import Derived.Below
namespace Go.Proofs.Ytdcndfcdjlpecaa
open Go.ChangeShapes Go.WideShapes Go.ChangeAt Go.RowKit Go.Deep

/-- A slice value that reads as a list: of elements of one cell each, which hold 'mk' of what the list has. -/
def SlR {α : Type} (mk : α → Value) (w : World) (v : Value) (l : List α) : Prop :=
  (l = [] ∧ ∃ a c, v = .slice a 0 c ∧ c ≤ maxLen) ∨
  ∃ b off cap, v = .slice (some ⟨b, off, none⟩) l.length cap ∧ 0 < l.length ∧ l.length ≤ cap ∧ cap ≤ maxLen ∧ b < w.heap.size ∧ ∀ (i : Nat) (h : i < l.length), w.cell? ⟨b, off + i, none⟩ = some (mk l[i])

/-- An array by value. -/
def ArrR {α : Type} (mk : α → Value) (n : Nat) (v : Value) (l : List α) : Prop := v = .agg (l.map mk).toArray ∧ l.length = n

theorem cell_block_lt {w : World} {a : Addr} {v : Value} (h : w.cell? a = some v) : a.block < w.heap.size := by
  unfold World.cell? at h
  split at h
  · rename_i hb
    exact (Array.getElem?_eq_some_iff.1 hb).1
  · cases h

section
variable {H : Type} {enc : TypeId × Value → H} {P : Program} {w : World} {base : Nat} {spare : Nat → Bool} {held : Bool} {r : Reach} {b0 : Nat}

theorem trod_float {t : TypeId} {k : FloatKind} {fuel : Nat} {cs : List Value} {x : DataW H × List MemPlace} (ht : P.underlying t = some (.float k)) (h : DataW.trod enc P w base spare held fuel t cs = some x) :
    ∃ b, cs = [.float k b] ∧ (Lit.float k b).wf = true := by
  cases fuel with
  | zero => simp [DataW.trod] at h
  | succ n =>
    unfold DataW.trod at h
    rw [ht] at h
    split at h <;> simp_all

theorem trod_bool {t : TypeId} {fuel : Nat} {cs : List Value} {x : DataW H × List MemPlace} (ht : P.underlying t = some .bool) (h : DataW.trod enc P w base spare held fuel t cs = some x) :
    ∃ b, cs = [.bool b] := by
  cases fuel with
  | zero => simp [DataW.trod] at h
  | succ n =>
    unfold DataW.trod at h
    rw [ht] at h
    split at h <;> simp_all

theorem open_sl {α : Type} [Inhabited α] {mk : α → Value} {Q : α → Prop} {t e : TypeId} {v : Value} {d : DataW H} {ps : List MemPlace} (ht : P.underlying t = some (.slice e)) (hc : P.cellsOf e = 1)
    (hel : ∀ n cs x, DataW.trod enc P w base spare held n e cs = some x → ∃ y, cs = [mk y] ∧ Q y)
    (hval : Value.okWide P w r b0 t v) (hd : DataW.Trod enc P w base spare held t v d ps) : ∃ l : List α, SlR mk w v l ∧ ∀ y ∈ l, Q y := by
  obtain ⟨a0, len0, cap0, rfl⟩ := okWide_slice ht hval
  obtain ⟨fuel, hf⟩ := hd
  rcases open_slice1 ht hc hf with ⟨hcs, _⟩ | ⟨a, len, cap, m, n, V, D, Pl, hcs, _, hl, hm, hmm, _, hcell⟩
  · simp [Value.cells] at hcs
    obtain ⟨rfl, rfl, rfl⟩ := hcs
    exact ⟨[], .inl ⟨rfl, none, 0, rfl, by decide⟩, fun y hy => by cases hy⟩
  · simp [Value.cells] at hcs
    obtain ⟨rfl, rfl, rfl⟩ := hcs
    have hle : len0 ≤ m := by rw [hmm]; split <;> omega
    obtain ⟨Y, hY⟩ := choose_lt (α := α) (n := len0) (p := fun i y => V i = mk y ∧ Q y) (fun i hi => by
      obtain ⟨_, h2⟩ := hcell i (by omega)
      obtain ⟨y, hy, hq⟩ := hel _ _ _ h2
      exact ⟨y, by simpa using hy, hq⟩)
    refine ⟨(List.range len0).map Y, ?_, ?_⟩
    · by_cases h0 : len0 = 0
      · subst h0
        exact .inl ⟨rfl, some a, cap0, rfl, hm⟩
      · right
        obtain ⟨b, off, spot⟩ := a
        have hc0 := (hcell 0 (by omega)).1
        have hspot : spot = none := by simpa [Addr.add] using World.cell?_spot hc0
        subst hspot
        refine ⟨b, off, cap0, by simp, by simp; omega, by simpa using hl, hm, ?_, fun i h => ?_⟩
        · have := cell_block_lt hc0
          simpa [Addr.add] using this
        · have hi : i < len0 := by simpa using h
          have h1 := (hcell i (by omega)).1
          have e : (⟨b, off, none⟩ : Addr).add i = ⟨b, off + i, none⟩ := by
            unfold Addr.add; split
            · rename_i hz; subst hz; rfl
            · rfl
          rw [e, (hY i hi).1] at h1
          simpa using h1
    · intro y hy
      obtain ⟨i, hi, rfl⟩ := List.mem_map.1 hy
      exact (hY i (by simpa using hi)).2

theorem open_i64 {k : IntKind} {t : TypeId} {v : Value} {d : DataW H} {ps : List MemPlace} (ht : P.underlying t = some (.int k)) (hval : Value.okWide P w r b0 t v) (hd : DataW.Trod enc P w base spare held t v d ps) :
    ∃ x, v = .int k x ∧ (Lit.int k x).wf = true := by
  obtain ⟨x, h1, _, _, h2⟩ := open_int ht hval hd
  exact ⟨x, h1, h2⟩

theorem open_f64 {k : FloatKind} {t : TypeId} {v : Value} {d : DataW H} {ps : List MemPlace} (ht : P.underlying t = some (.float k)) (hval : Value.okWide P w r b0 t v) (hd : DataW.Trod enc P w base spare held t v d ps) :
    ∃ x, v = .float k x ∧ (Lit.float k x).wf = true := by
  obtain ⟨x, h1, _, _, h2⟩ := open_float ht hval hd
  exact ⟨x, h1, h2⟩

theorem open_b {t : TypeId} {v : Value} {d : DataW H} {ps : List MemPlace} (ht : P.underlying t = some .bool) (hval : Value.okWide P w r b0 t v) (hd : DataW.Trod enc P w base spare held t v d ps) :
    ∃ x, v = .bool x := by
  obtain ⟨x, h1, _, _⟩ := open_bool ht hval hd
  exact ⟨x, h1⟩

theorem okWide_array {t e : TypeId} {n : Nat} {v : Value} (ht : P.underlying t = some (.array n e)) (h : Value.okWide P w r b0 t v) : ∃ cs, v = .agg cs ∧ cs.size = P.cellsOf t := by
  simp only [Value.okWide, ht] at h
  obtain ⟨cs, h1, h2, _⟩ := h
  exact ⟨cs, h1, h2⟩

theorem open_arr {α : Type} [Inhabited α] {mk : α → Value} {Q : α → Prop} {t e : TypeId} {n : Nat} {v : Value} {d : DataW H} {ps : List MemPlace} (ht : P.underlying t = some (.array n e)) (hc : P.cellsOf e = 1) (hn : P.cellsOf t = n)
    (hel : ∀ n cs x, DataW.trod enc P w base spare held n e cs = some x → ∃ y, cs = [mk y] ∧ Q y)
    (hval : Value.okWide P w r b0 t v) (hd : DataW.Trod enc P w base spare held t v d ps) : ∃ l : List α, ArrR mk n v l ∧ ∀ y ∈ l, Q y := by
  obtain ⟨cs, rfl, hsz⟩ := okWide_array ht hval
  obtain ⟨fuel, hf⟩ := hd
  obtain ⟨xs, m, _, _, hl, hxl, hx⟩ := DataW.trod_array ht hf
  simp only [Value.cells] at hl hx
  rw [hc] at hx
  rw [hn] at hl hsz
  obtain ⟨Y, hY⟩ := choose_lt (α := α) (n := n) (p := fun i y => cs[i]? = some (mk y) ∧ Q y) (fun i hi => by
    have h1 := hx i hi
    rw [List.getElem?_eq_getElem (by omega)] at h1
    obtain ⟨y, hy, hq⟩ := hel _ _ _ h1
    refine ⟨y, ?_, hq⟩
    rw [Nat.mul_one] at hy
    have h2 : (cs.toList.drop i)[0]? = some (mk y) := by
      rw [← List.getElem?_take_of_lt (show 0 < 1 by omega), hy]; rfl
    rw [List.getElem?_drop, Nat.add_zero] at h2
    simpa using h2)
  refine ⟨(List.range n).map Y, ⟨?_, by simp⟩, ?_⟩
  · congr 1
    apply Array.ext'
    apply List.ext_getElem?
    intro i
    by_cases hi : i < n
    · have := (hY i hi).1
      simp [hi, ← this]
    · rw [List.getElem?_eq_none (by simp; omega), List.getElem?_eq_none (by simp; omega)]
  · intro y hy
    obtain ⟨i, hi, rfl⟩ := List.mem_map.1 hy
    exact (hY i (by simpa using hi)).2
end

end Go.Proofs.Ytdcndfcdjlpecaa
