/-
  Slices of bytes: how a value reads as a list of bytes; a row of the call's own that bytes are appended to.
-/
import Derived.Test.YtnnllficjljjkaaRows
import Derived.Test.YtnnllficjljjkaaLaws
import Derived.Laws.AppendOwnNone
import Derived.OwnWalk
namespace Go.Proofs.Ytnnllficjljjkaa
open Go.RowKit

/-- A slice value that reads as a list of bytes; as a list of such lists. -/
def BRow (w : World) (v : Value) (l : List (BitVec 8)) : Prop :=
  ∃ a c, v = .slice a l.length c ∧ (a = none → c = 0) ∧ (0 < l.length → ∃ b off, a = some ⟨b, off, none⟩ ∧ b < w.heap.size ∧ ∀ (i : Nat) (h : i < l.length), w.cell? ⟨b, off + i, none⟩ = some (.int .u8 (B8 l[i])))
def BRows (w : World) (v : Value) (l : List (List (BitVec 8))) : Prop :=
  ∃ a c, v = .slice a l.length c ∧ (a = none → c = 0) ∧ (0 < l.length → ∃ b off, a = some ⟨b, off, none⟩ ∧ b < w.heap.size ∧ ∀ (i : Nat) (h : i < l.length), ∃ vi, w.cell? ⟨b, off + i, none⟩ = some vi ∧ BRow w vi l[i])

theorem BRow.below {w w' : World} {v : Value} {l : List (BitVec 8)} (h : BRow w v l) (hb : Below w.heap.size w w') : BRow w' v l := by
  obtain ⟨a, c, rfl, hn, h⟩ := h
  refine ⟨a, c, rfl, hn, fun h0 => ?_⟩
  obtain ⟨b, off, rfl, h1, h2⟩ := h h0
  exact ⟨b, off, rfl, Nat.lt_of_lt_of_le h1 hb.size, fun i hi => (hb.cell (p := ⟨b, off + i, none⟩) h1).trans (h2 i hi)⟩
theorem BRows.below {w w' : World} {v : Value} {l : List (List (BitVec 8))} (h : BRows w v l) (hb : Below w.heap.size w w') : BRows w' v l := by
  obtain ⟨a, c, rfl, hn, h⟩ := h
  refine ⟨a, c, rfl, hn, fun h0 => ?_⟩
  obtain ⟨b, off, rfl, h1, h2⟩ := h h0
  exact ⟨b, off, rfl, Nat.lt_of_lt_of_le h1 hb.size, fun i hi => let ⟨vi, e, r⟩ := h2 i hi; ⟨vi, (hb.cell (p := ⟨b, off + i, none⟩) h1).trans e, r.below hb⟩⟩

/-- The bytes as cells; a row of the call's own that holds just them. -/
def encB (l : List (BitVec 8)) : List Value := l.map fun x => .int .u8 (B8 x)
def OwnB (w : World) (base : Nat) (v : Value) (l : List (BitVec 8)) : Prop := w.ownsRow base 5 1 v l.length (encB l)

theorem OwnB.brow {w : World} {base : Nat} {v : Value} {l : List (BitVec 8)} (h : OwnB w base v l) : BRow w v l := by
  rcases h.2 with ⟨rfl, h0⟩ | ⟨g, cap, cur, rfl, _, hg, _, _, _, htake⟩
  · exact ⟨none, 0, by rw [h0], fun _ => rfl, fun hp => by omega⟩
  · refine ⟨_, cap, rfl, (fun hc => by cases hc), fun _ => ⟨g, 0, rfl, (Array.getElem?_eq_some_iff.1 hg).1, fun i hi => ?_⟩⟩
    have hc := World.ownsRow.cells h (g := g) rfl i (.int .u8 (B8 l[i])) (by simp [encB, hi])
    have hadd : (⟨g, 0, none⟩ : Addr).add i = ⟨g, 0 + i, none⟩ := by unfold Addr.add; split <;> simp_all
    rw [hadd] at hc
    exact hc

theorem info_u8 : (Try.prog.info? 5).map (fun i => (i.zero, i.size, i.bytes)) = some (some (.int .u8 0), 1, 1) := by kernel_rfl

/-- Bytes that a value reads as are appended to a row of the call's own. -/
theorem wpList_append_B {ops : Array Oper} {rest : List Oper} {o : Oper} {a : Act} {w : World} {Q : Exit → Act → World → Prop} (hgd : o.guard = none) (s x : Operand)
    (ho : o.op = .call { callee := .builtin .append, args := #[s, x], argTypes := #[22, 22] })
    (base : Nat) (v : Value) (xs l : List (BitVec 8)) (hs : a.eval s = v) (hown : OwnB w base v xs) (hx : BRow w (a.eval x) l)
    (hsz : xs.length + l.length ≤ 100000000000) (hbase : base ≤ w.heap.size)
    (h : ∀ v' w', OwnB w' base v' (xs ++ l) → w.grownBy w' v.ownBlock → wpList Try.prog ops Q rest (a.put o.dst v') w') : wpList Try.prog ops Q (o :: rest) a w := by
  obtain ⟨i0, hi0, hz0, hz1, hz2⟩ := info_parts info_u8
  obtain ⟨ad, c, e, hn, hp⟩ := hx
  cases ad with
  | none =>
    have hl : l = [] := by
      rcases Nat.eq_zero_or_pos l.length with h0 | h0
      · exact List.eq_nil_of_length_eq_zero h0
      · obtain ⟨_, _, hc, _⟩ := hp h0; cases hc
    subst hl
    rw [hn rfl] at e
    refine wpList_append_own_none hgd s x 22 ho base 5 i0 1 Try.underlying22 hi0 v _ _ hs hown e ?_
    exact h v w (by rw [List.append_nil]; exact hown) (grown_refl _ _)
  | some ad =>
    refine wpList_append_own w hgd s x 22 ho base 5 i0 _ 1 1 Try.underlying22 hi0 hz0 hz1 hz2 rfl (by decide) v xs.length (encB xs) hs hown ad l.length c (encB l) e (by simp [encB]) ?_ ?_ (by unfold maxLen; omega) (by omega) hbase ?_
    · intro j u hj
      have hjl : j < l.length := by
        rcases Nat.lt_or_ge j l.length with h | h
        · exact h
        · rw [List.getElem?_eq_none (by simp [encB]; exact h)] at hj; cases hj
      obtain ⟨b, off, hc, _, hcell⟩ := hp (by omega)
      cases hc
      rw [Addr.add_mid, hcell j hjl]
      simpa [encB, hjl] using hj
    · intro u hu
      obtain ⟨y, _, rfl⟩ := List.mem_map.1 hu
      rfl
    · intro v' w' h1 h2 _
      refine h v' w' ?_ h2
      unfold OwnB encB
      rw [List.length_append, List.map_append]
      exact h1

end Go.Proofs.Ytnnllficjljjkaa
