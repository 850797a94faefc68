/-
  Laws of a walk over any program, for rows that are said by an index function: a new row, a row's element, a whole row loaded, stored, handed back.
-/
import Derived.Test.YtnnllficjljjkaaBits
import Derived.WalkKit
import Derived.WalkSpells
import Derived.WalkLawsBesides
import Derived.Deep.MidRow
import Derived.Deep.WholeRow
import Derived.Great.BuildSlice
import Derived.LoopTactic
import Derived.Lib.Hide
import Derived.ChangeKeysEq
import Derived.ScopeJumps
import Derived.WalkMore
namespace Go.Proofs.Ytnnllficjljjkaa
open Go.RowKit

section
variable {P : Program}

/-- A scope whose label is come to from ahead in a state that the jumps meet, too: the rest is walked once. -/
theorem wp_scope_from {c rest : Code} {Q : Exit → Act → World → Prop} {a : Act} {w : World} (l : Nat) (J : Act → World → Prop) (μ : Act → World → Nat) (hf : findLabel c l = some (Code.skip.seq rest))
    (pass : ∀ a w, J a w → rest.wp P (Exit.jump l (fun a' w' => J a' w' ∧ μ a' w' < μ a w) Q) a w)
    (first : (∀ a w, J a w → rest.wp P (Exit.jump l J Q) a w) → c.wp P (Exit.jump l J Q) a w) : (Code.scope c).wp P Q a w :=
  wp_scope_jumps l J μ hf (first fun a w h => Code.wp_mono (fun e a w q => by
    cases e with
    | goto l' => exact ⟨q.1, q.2.1⟩
    | normal => exact q
    | exit id => exact q
    | ret => exact q
    | panic ch => exact q
    | outgrown => exact q) (pass a w h)) fun a w h => wp_seq_k fun K hK => wp_skip (hK _ _ (pass a w h))

theorem run_alloc_row {t : TypeId} {n : Nat} {S : Nat → Value} (hz : (P.info? t).map (fun i => (i.zero, i.size)) = some (some (.agg (row n S)), n)) (w : World) (v : Value) :
    (Instr.alloc t true v).run P w = .ok (.pointer (some ⟨w.heap.size, 0, none⟩)) (w.alloc (.cells (row n S) t)) := by
  have h := (zero_of_info (P := P) hz).1 w
  unfold Instr.alloc
  simp only [Sem.run_bind, h, Result.andThen_ok, newVar, newRow, newObj, Sem.run, Sem.run_pure, Value.cells]
  rfl

theorem wpList_alloc_row {ops : Array Oper} {rest : List Oper} {o : Oper} {a : Act} {w : World} {Q : Exit → Act → World → Prop} (hg : o.guard = none) (t : TypeId) (ho : o.op = .alloc t)
    (n : Nat) (S : Nat → Value) (hz : (P.info? t).map (fun i => (i.zero, i.size)) = some (some (.agg (row n S)), n))
    (h : wpList P ops Q rest (a.put o.dst (.pointer (some ⟨w.heap.size, 0, none⟩))) (w.alloc (.cells (row n S) t))) : wpList P ops Q (o :: rest) a w :=
  wpList_plain hg fun _ hK => by
    unfold Oper.wp execOp
    simp only [ho, Sem.run_bind, run_alloc_row hz, Result.andThen_ok]
    exact hK _ _ h

theorem run_index_row {t e : TypeId} {n k : Nat} (S : Nat → Value) (ht : P.underlying t = some (.array n e)) (he : (P.info? e).map (·.size) = some 1)
    (hr : ∀ w, (isAgg e).run P w = .ok false w) (hk : k < n) (w : World) : (Instr.index t (.agg (row n S)) (.int .i64 k)).run P w = .ok (S k) w := by
  cases hi : P.info? e with
  | none => rw [hi] at he; cases he
  | some i =>
    have hs : i.size = 1 := by simpa [hi] using he
    have h0 : (0 : Int) ≤ (k : Int) ∧ (k : Int) < (n : Int) := by omega
    simp only [Instr.index, asIntOf, Sem.run_bind, Sem.run_pure, Result.andThen_ok, run_underlying ht, if_pos h0, sizeOf, run_typeInfo _ hi, hs, part, hr, Bool.false_eq_true, if_false, Int.toNat_natCast, Nat.mul_one, row_get S hk]

/-- A whole row in the middle of a block. -/
theorem rangeAt_row {w : World} {b o n m : Nat} {S : Nat → Value} {t : TypeId} {fr : Nat × Nat} (hg : w.heap[b]? = some (.cells (row m S) t fr)) (h : o + n ≤ m) :
    w.rangeAt b o (row n fun i => S (o + i)).toList := fun j v hv => by
  have hj : j < n := by
    rcases Nat.lt_or_ge j n with h | h
    · exact h
    · rw [List.getElem?_eq_none (by simp [row_size]; exact h)] at hv; cases hv
  have e : (row n fun i => S (o + i)).toList[j]? = some (S (o + j)) := by
    rw [Array.getElem?_toList]; exact row_get _ hj
  rw [e] at hv
  cases hv
  exact cell_row hg (by omega)

theorem heap_setCells {b m : Nat} {t : TypeId} : ∀ (vs : List Value) (o : Nat) (S : Nat → Value) (w : World), w.heap[b]? = some (.cells (row m S) t (0, 0)) → o + vs.length ≤ m →
    (w.setCells b o vs).heap[b]? = some (.cells (row m fun i => if o ≤ i then vs.getD (i - o) (S i) else S i) t (0, 0))
  | [], o, S, w, hg, _ => by
    show w.heap[b]? = _
    rw [hg]
    congr 2
    exact row_congr fun i _ => by simp
  | v :: vs, o, S, w, hg, hl => by
    simp only [List.length_cons] at hl
    show ((w.setCell ⟨b, o, none⟩ v).setCells b (o + 1) vs).heap[b]? = _
    rw [heap_setCells vs (o + 1) _ _ (heap_set_row v hg (by omega)) (by omega)]
    congr 2
    refine row_congr fun i _ => ?_
    by_cases h1 : o + 1 ≤ i
    · rw [if_pos h1, if_pos (by omega)]
      have : i - o = (i - (o + 1)) + 1 := by omega
      rw [this, List.getD_cons_succ]
      simp [upd, show i ≠ o by omega]
    · rw [if_neg h1]
      by_cases h2 : i = o
      · subst h2; simp [upd]
      · rw [if_neg (by omega)]; simp [upd, h2]
end

theorem rowU_oneCell (n : Nat) (f : Nat → BitVec 32) : (rowU n f).all (·.oneCell') = true := by
  simp [rowU, row, Value.oneCell']
theorem rowB_oneCell (n : Nat) (f : Nat → BitVec 8) : (rowB n f).all (·.oneCell') = true := by
  simp [rowB, row, Value.oneCell']

theorem heap_setRow_at {w : World} {g : Nat} {c c' : Array Value} {t : TypeId} {fr : Nat × Nat} (hg : w.heap[g]? = some (.cells c t fr)) : (w.setRow g c').heap[g]? = some (.cells c' t fr) := by
  simp only [World.setRow, Array.getElem?_modify, if_pos trivial, hg, Option.map_some]
theorem heap_setRow_far {w : World} {g k : Nat} {c' : Array Value} (h : k ≠ g) : (w.setRow g c').heap[k]? = w.heap[k]? := by
  simp only [World.setRow, Array.getElem?_modify]
  rw [if_neg (Ne.symm h)]
theorem below_setRow {B : Nat} {a w : World} (h : Below B a w) {g : Nat} (hg : B ≤ g) (c : Array Value) : Below B a (w.setRow g c) :=
  h.trans ⟨rfl, rfl, rfl, by simp, fun k hk => heap_setRow_far (by omega)⟩

theorem grown_of_below {w w' : World} {r : Option Nat} (h : Below w.heap.size w w') : w.grownBy w' r := ⟨h.os, h.tape, h.output, h.size, fun k hk _ => h.block k hk⟩
theorem grown_refl (w : World) (r : Option Nat) : w.grownBy w r := ⟨rfl, rfl, rfl, Nat.le_refl _, fun _ _ _ => rfl⟩
theorem grown_trans {a b c : World} {r : Option Nat} (h : a.grownBy b r) (k : b.grownBy c r) : a.grownBy c r :=
  ⟨k.os.trans h.os, k.tape.trans h.tape, k.output.trans h.output, Nat.le_trans h.size k.size, fun i hi hr => (k.block i (Nat.lt_of_lt_of_le hi h.size) hr).trans (h.block i hi hr)⟩
theorem grown_drewN {a b : World} {r : Option Nat} (h : a.grownBy b r) (n : Nat) : a.grownBy (b.drewN n) r := ⟨h.os, h.tape, h.output, h.size, h.block⟩
theorem grown_drew {a b : World} {r : Option Nat} (h : a.grownBy b r) : a.grownBy b.drew r := ⟨h.os, h.tape, h.output, h.size, h.block⟩
theorem grown_alloc {a b : World} {r : Option Nat} (h : a.grownBy b r) (o : Obj) : a.grownBy (b.alloc o) r :=
  ⟨h.os, h.tape, h.output, by have := h.size; simp; omega, fun k hk hr => (Below.heap_alloc b o k (Nat.lt_of_lt_of_le hk h.size)).trans (h.block k hk hr)⟩
theorem grown_setRow {a b : World} {r : Option Nat} (h : a.grownBy b r) {g : Nat} (hg : a.heap.size ≤ g ∨ r = some g) (c : Array Value) : a.grownBy (b.setRow g c) r :=
  ⟨h.os, h.tape, h.output, by have := h.size; simpa using this, fun k hk hr => (heap_setRow_far (fun e => by subst e; exact hg.elim (fun h => by omega) (fun h => hr h.symm))).trans (h.block k hk hr)⟩
theorem grown_setCell {a b : World} {r : Option Nat} (h : a.grownBy b r) {x : Addr} (hx : a.heap.size ≤ x.block ∨ r = some x.block) (v : Value) : a.grownBy (b.setCell x v) r :=
  ⟨h.os, h.tape, h.output, by have := h.size; simpa [World.setCell] using this, fun k hk hr => (heap_setCell_other b x k v (fun e => by subst e; exact hx.elim (fun h => by omega) (fun h => hr h.symm))).trans (h.block k hk hr)⟩

end Go.Proofs.Ytnnllficjljjkaa
